/- The walks of the functions (printed by a program of ours). -/
import Derived.Test.YtlfclppjhkeljaaGreatPwt3
import Derived.Test.YtlfclppjhkeljaaGreatPwtIWt
import Derived.Test.YtlfclppjhkeljaaGreatPwtVeN
import Derived.Test.YtlfclppjhkeljaaGreatPwtVeT
set_option linter.unusedVariables false
set_option linter.unusedSimpArgs false
set_option linter.unusedSectionVars false
/-! (KWt5) -/

set_option maxRecDepth 100000
set_option maxHeartbeats 4000000
set_option linter.unusedVariables false
namespace Go.Vd
open Go.Proofs
attribute [local irreducible] Zs Zu aWp
theorem Zfh {H : AH} {Z : Value} {al : Fp} {aa : Value} {an : Fp} {V : Value} {am : Fp} {Y : Value} {ak : Fp} {O : Value} {aj : Fp} {ac : List (Int)} {ad : List (Int)} {J : List (Int × Int × Int × Int)} {ab : List (Int)} {z : List (Int × Int × Int × Int)} {r : Int}
    (ai : WF H) (aq : Sq (Zh .u32) 1 H Z ac al) (au : Sq (Zh .u32) 1 H aa ad an) (af : Sq Ze 4 H V J am) (ap : Sq (Zh .u32) 1 H Y ab ak) (ae : Sq Ze 4 H O z aj) (ag : Zbn ac ad J ab z = some r) :
    ACalls Tryz.prog 8 #[.agg #[Z, aa, V, Y, O]] H fun v H' => v = i_ r /\ FrS [] H H' := by
 refine ab_ Tryz.func8 ?_
 unfold Zbn at ag
 refine sq_ fun av => g_' ?_
 refine Z3 ai [Z, aa, V, Y, O] (Zd (aq.one1) (Zd (au.one1) (Zd (af.one1) (Zd (ap.one1) (Zd (ae.one1) (ZN)))))) (by kernel_rfl) fun aB aA X aC ah => ?_
 refine qs_ 1 (Za (av _ _ (sq_ fun aw => g_' (qs_ 1 (lr_ 23 2 (V) ah ?_)))))
 have az := (af.ext X)
 refine az.ln_ 23 (qs_ 1 (lr_ 23 4 (O) ah ?_))
 have ay := (ae.ext X)
 refine ay.ln_ 23 ?_
 obtain ⟨ao, ax⟩ := Zb ag
 refine w_' (((J.length : Int) + (z.length : Int))) (Zn ao) (qs_ 1 (Za (aw _ _ ?_)))
 refine Zp ?_
 refine br_ [i_ ((J.length : Int) + (z.length : Int))] ?_
 obtain rfl := oi_ ax
 exact ⟨rfl, ((f0_ ai).extR X)⟩
theorem ZaC {H : AH} {z : Int} {r : Int}
    (J : WF H) (V : Z4 z = some r) :
    ACalls Tryz.prog 42 #[i_ z] H fun v H' => v = .agg #[i_ r, .slice none 0 0] /\ FrS [] H H' := by
 refine ab_ Tryz.func42 ?_
 unfold Z4 at V
 refine sq_ fun ab => g_' ?_
 refine rk_ J [i_ 0, .slice none 0 0] fun Y ag O aa af => ?_
 refine Za (ab _ _ (sq_ fun ac => g_' (qs_ 2 ?_)))
 obtain ⟨X, ad, Z, ae⟩ := ra_ 30 0 O.wf af [i_ z, .slice none 0 0] [i_ z, .slice none 0 0]
 refine ek_ ad (Za (ac _ _ ?_))
 refine Zp ?_
 refine ZX (vs := [.agg #[i_ z, .slice none 0 0]]) (ZC (Eq.trans (b := aL_ 30 (pt_ Y 0) X) (by kernel_rfl) (ae.l_)) (rfl)) ?_
 obtain rfl := oi_ V
 exact ⟨rfl, (fs_ J ((f0_ J).extR O) Z (aa.fresh (Nat.le_refl _)))⟩
theorem ZcN {H : AH} {ac : Value} {aA : Fp} {af : Int} {at_ : Int} {z : Int} {ag : List (Int × Int)} {r : Int × List (Int × Int)}
    (ae : WF H) (aj : Sq Zak 2 H ac ag aA) (an : Zai af at_ z ag = some r) :
    ACalls Tryz.prog 45 #[i_ af, i_ at_, .agg #[i_ z, ac]] H fun v H' => ∃ (aq : Value) (ai : Fp), v = .agg #[i_ r.1, aq] /\ FrS [] H H' /\ Ow Zak 2 H' aq r.2 ai /\ Inn [] H ai := by
 refine ab_ Tryz.func45 ?_
 unfold Zai at an
 refine sq_ fun aG => g_' ?_
 refine Z3 ae [i_ z, ac] (Zd (rfl) (Zd (aj.one1) (ZN))) (by kernel_rfl) fun aV aT V aY ap => ?_
 refine rk_ V.wf [i_ 0, .slice none 0 0] fun aw aQ J aC ad => ?_
 refine Za (aG _ _ (sq_ fun aD => g_' (qs_ 3 ?_)))
 refine ZaK (enc := Zak) (sz := 2) J.wf [(af, at_)] 1 (by decide) (fun _ _ => rfl) (fun _ _ => rfl) rfl (by kernel_rfl) fun a0 aX aR O Z al => ?_
 obtain ⟨aU, aZ, aW, rfl⟩ := al.form
 refine qs_ 1 (Za (aD _ _ (sq_ fun aE => g_' (qs_ 2 ?_))))
 have au := ((ap.ext J).ext O)
 refine lr_ 28 1 (ac) au ?_
 obtain ⟨aB, aK⟩ := Zb an
 have aM := (((aj.ext V).ext J).ext O)
 obtain ⟨a1, aS, az, aI, ab, am, ak⟩ := Ow.append (P := Tryz.prog) 16 O.wf al aM (fun _ _ => rfl) (at_ := #[28, 28]) rfl rfl (by kernel_rfl) (by kernel_rfl) (by decide) (by have := aB; first | omega | (simp only [List.length_cons, List.length_nil] at this ⊢; omega) | (simp at this ⊢; omega))
 obtain ⟨X, aa, Y, rfl⟩ := am.form
 refine ZbX (.slice X aa Y) (by kernel_rfl) (aI) ?_
 refine qs_ 1 (Za (aE _ _ (sq_ fun aF => g_' (qs_ 1 ?_))))
 have ax := (Z.djn (ap.ltF.le J.n))
 have aN := (au.frS ab ax)
 refine lr_ 3 0 (i_ z) aN (qs_ 2 ?_)
 have aO := ((ad.ext O).frS ab (Z.djn ad.ltF))
 obtain ⟨av, aJ, ah, aL⟩ := ra_ 30 0 ab.wf aO [i_ z, .slice X aa Y] [i_ z, .slice X aa Y]
 refine ek_ aJ (Za (aF _ _ ?_))
 refine Zp ?_
 refine ZX (vs := [.agg #[i_ z, .slice X aa Y]]) (ZC (Eq.trans (b := aL_ 30 (pt_ aw 0) av) (by kernel_rfl) (aL.l_)) (rfl)) ?_
 have ao := (t_ V.n J.n)
 have ay := (ak.dj (Z.djn ad.ltF) (ad.ltF.le O.n))
 have aP := (am.fr ah (Dj.symm ay))
 have aH := (t_ (t_ V.n J.n) O.n)
 obtain rfl := oi_ aK
 exact ⟨(.slice X aa Y), az, rfl, (fs_ ae (fs_ ae ((((f0_ ae).extR V).extR J).extR O) ab (Z.fresh ao)) ah (aC.fresh V.n)), aP, (Inn.trans (Z.fresh ao) aH ak)⟩
theorem ZdE {H : AH} {aj : Value} {a2 : Fp} {l : List (Int)} {O : Int} {Y : Int} {r : Int × List (Int × Int)}
    (J : WF H) (a7 : Sq (Zh .u32) 1 H aj l a2) (aH : ZaB l O Y = some r) :
    ACalls Tryz.prog 44 #[aj, i_ O, i_ Y] H fun v H' => ∃ (aR : Value) (aD : Fp), v = .agg #[i_ r.1, aR] /\ FrS [] H H' /\ Ow Zak 2 H' aR r.2 aD /\ Inn [] H aD := by
 refine ab_ Tryz.func44 ?_
 unfold ZaB at aH
 refine sq_ fun bt => g_' ?_
 refine rk_ J [i_ 0, .slice none 0 0] fun Z aB V ai ac => ?_
 refine Za (bt _ _ (sq_ fun bk => sq_ fun bl => g_' (qs_ 1 ?_)))
 obtain ⟨aE, aO⟩ := Zb aH
 have X := (a7.ext V)
 refine X.ix_ 22 (by decide) aE (le_ 60 0 (.int .u32 (gt l 0)) X (by decide) aE (qs_ 1 (Za (bl _ _ ?_))))
 refine ZcS ((gt l 0) = 0) (by kernel_rfl) rfl (fun ap => ?_) (fun ap => ?_)
 ·have bM := Zj ap aO
  refine sq_ fun bm => g_' ?_
  obtain ⟨ax, bc, bN⟩ := bs_ bM
  refine ck_ (ZaC V.wf bc) ?_
  rintro _ b4 ⟨rfl, am⟩
  have bZ := (ac.frS am dn_)
  obtain ⟨aV, bA, a0, bO⟩ := ra_ 30 0 am.wf bZ [i_ ax, .slice none 0 0] [i_ ax, .slice none 0 0]
  refine ek_ bA (Za (bm _ _ ?_))
  refine Zp (Zk ?_)
  refine ZX (vs := [.agg #[i_ ax, .slice none 0 0]]) (ZC (Eq.trans (b := aL_ 30 (pt_ Z 0) aV) (by kernel_rfl) (bO.l_)) (rfl)) ?_
  obtain rfl := oi_ bN
  exact ⟨(.slice none 0 0), [], rfl, (fs_ J (fs_ J ((f0_ J).extR V) am in_) a0 (ai.fresh (Nat.le_refl _))), (Ow.nil (by decide)), in_⟩
 have bP := Zf ap aO
 refine Zg (bk _ _ (sq_ fun bn => sn_ ?_))
 obtain ⟨aS, ba, aP⟩ := bs_ bP
 refine Zv (fun α az => ∃ aM, aS = Sum.inr aM /\ Has α [(0, aj), (1, i_ O), (2, i_ Y), (6, pt_ Z 0)] /\ aB = az) (fun _ bo => ?_) (fun α az hM => ?_)
 ·refine Zl ?_
  obtain ⟨aL, a9⟩ := Zr.1 ba
  refine Zy (fun n α aA => ∃ (z : Int), ZD (fun zz_ => ZaD l O zz_) n z = some aS /\ Has α [(0, aj), (1, i_ O), (2, i_ Y), (6, pt_ Z 0), (7, i_ z)] /\ aB = aA) aL ⟨0, a9, ha_, rfl⟩ ?_
  rintro aL α aA ⟨z, a8, aG, rfl⟩ b7 bp
  obtain ⟨bv, b2, rfl, ab, av⟩ := Zt a8
  obtain ⟨β, rfl⟩ := Zi aG
  clear aG
  replace ab : ZaD l O z = some b2 := ab
  unfold ZaD at ab
  refine sq_ fun bq => sn_ ?_
  refine wc_ (z < O) (fun aq => ?_) fun aq => ?_
  ·have bQ := Zf aq ab
   refine Zg (bq _ _ (sq_ fun br => Zl (sq_ fun bs => ?_)))
   refine ZJ [0, 1, 2, 3, 4, 5, 6, 7, 8, 9] (by kernel_rfl) ?_
   refine es_ 2 ?_
   obtain ⟨a5, bR⟩ := Zb bQ
   refine d_w ((z + 1)) (k := .i64) (x := (z + 1)) (by kernel_rfl) (Zn a5) ?_
   obtain ⟨ag, bS⟩ := Zb bR
   refine X.mx_ 22 ag.1 ag.2 (me_ 60 0 (.int .u32 (gt l (z + 1))) X ag.1 ag.2 (es_ 2 ?_))
   obtain ⟨ah, aQ⟩ := Zb bS
   refine X.mx_ 22 ah.1 ah.2 (me_ 60 0 (.int .u32 (gt l z)) X ah.1 ah.2 (es_ 1 ?_))
   refine ZE ?_
   refine bs _ _ ?_
   refine wc_ ((gt l (z + 1)) < (gt l z)) (fun au => ?_) fun au => ?_
   ·have bT := Zf au aQ
    refine sq_ fun bu => g_' (qs_ 1 ?_)
    obtain ⟨b_, bd, bU⟩ := bs_ bT
    refine ck_ (ZaC V.wf bd) ?_
    rintro _ b5 ⟨rfl, aa⟩
    obtain ⟨ay, be, bV⟩ := bs_ bU
    refine ck_ (ZcN aa.wf (Sq.nil (enc := Zak) (sz := 2) (by decide)) be) ?_
    rintro _ b6 ⟨b8, a1, rfl, an, aK, aJ⟩
    obtain ⟨ad, ak, ae, rfl⟩ := aK.form
    have b0 := ((ac.frS aa dn_).frS an dn_)
    obtain ⟨aW, bB, aC, bW⟩ := ra_ 30 0 an.wf b0 [i_ ay.1, .slice ad ak ae] [i_ ay.1, .slice ad ak ae]
    refine ek_ bB (Za (bu _ _ ?_))
    refine Zp (ZI (Zk (Zk (ZI (Zk (Zk ?_))))))
    obtain ⟨b9, aI, bf⟩ := map_some bV
    subst bf
    obtain rfl := Zw av
    have a_ := elim_inl aP
    rw [a_] at aI
    refine ZX (vs := [.agg #[i_ ay.1, .slice ad ak ae]]) (ZC (Eq.trans (b := aL_ 30 (pt_ Z 0) aW) (by kernel_rfl) (bW.l_)) (rfl)) ?_
    have aX := (aJ.djn (ac.ltF.le aa.n))
    have b1 := (aK.fr aC (Dj.symm aX))
    have bw := (t_ V.n aa.n)
    obtain rfl := oi_ aI
    exact ⟨(.slice ad ak ae), a1, rfl, (fs_ J (fs_ J (fs_ J ((f0_ J).extR V) aa in_) an in_) aC (ai.fresh (Nat.le_refl _))), b1, (aJ.fresh bw)⟩
   have bX := Zj au aQ
   refine Zg (br _ _ (g_' (qs_ 1 ?_)))
   obtain ⟨a6, bC⟩ := Zb bX
   refine w_' ((z + 1)) (Zn (by have := a6; omega)) (qs_ 1 (Za ?_))
   obtain rfl := oi_ bC
   exact bp bv _ _ lt_ ⟨(z + 1), av, ha_, rfl⟩
  have bD := Zj aq ab
  refine ZA (Zm (Zm (ZK ?_)))
  obtain rfl := oi_ bD
  obtain rfl := Zw av
  exact bo _ _ ⟨_, rfl, ha_, rfl⟩
 obtain ⟨aM, rfl, aF, rfl⟩ := hM
 have bE := elim_inr aP
 obtain ⟨β, rfl⟩ := Zi aF
 clear aF
 refine bn _ _ (sq_ fun bg => sq_ fun bh => g_' (qs_ 2 ?_))
 obtain ⟨af, bF⟩ := Zb bE
 refine X.ix_ 22 af.1 af.2 (le_ 60 0 (.int .u32 (gt l O)) X af.1 af.2 ?_)
 obtain ⟨a3, bG⟩ := Zb bF
 refine s_w ((gt l O)) (k := .u64) (x := (gt l O)) (by kernel_rfl) (Zag a3) ?_
 refine qs_ 1 ?_
 obtain ⟨a4, aN⟩ := Zb bG
 refine s_w (Y) (k := .u64) (x := Y) (by kernel_rfl) (Zag a4) ?_
 refine qs_ 1 (Za (bh _ _ ?_))
 refine ZcS ((gt l O) = Y) (by kernel_rfl) rfl (fun ao => ?_) (fun ao => ?_)
 ·have bH := Zj ao aN
  refine sq_ fun bi => g_' ?_
  obtain ⟨aw, bb, bI⟩ := bs_ bH
  refine ck_ (ZaC V.wf bb) ?_
  rintro _ b3 ⟨rfl, al⟩
  have bY := (ac.frS al dn_)
  obtain ⟨aT, bx, aY, bJ⟩ := ra_ 30 0 al.wf bY [i_ aw, .slice none 0 0] [i_ aw, .slice none 0 0]
  refine ek_ bx (Za (bi _ _ ?_))
  refine Zp (Zk ?_)
  refine ZX (vs := [.agg #[i_ aw, .slice none 0 0]]) (ZC (Eq.trans (b := aL_ 30 (pt_ Z 0) aT) (by kernel_rfl) (bJ.l_)) (rfl)) ?_
  obtain rfl := oi_ bI
  exact ⟨(.slice none 0 0), [], rfl, (fs_ J (fs_ J ((f0_ J).extR V) al in_) aY (ai.fresh (Nat.le_refl _))), (Ow.nil (by decide)), in_⟩
 have bK := Zf ao aN
 refine Zg (bg _ _ (sq_ fun bj => g_' (qs_ 1 ?_)))
 obtain ⟨aU, bz, aZ, bL⟩ := ra_ 30 0 V.wf ac [i_ 0, .slice none 0 0] [i_ 0, .slice none 0 0]
 refine ek_ bz (Za (bj _ _ ?_))
 refine Zp ?_
 refine ZX (vs := [.agg #[i_ 0, .slice none 0 0]]) (ZC (Eq.trans (b := aL_ 30 (pt_ Z 0) aU) (by kernel_rfl) (bL.l_)) (rfl)) ?_
 obtain rfl := oi_ bK
 exact ⟨(.slice none 0 0), [], rfl, (fs_ J ((f0_ J).extR V) aZ (ai.fresh (Nat.le_refl _))), (Ow.nil (by decide)), in_⟩
theorem Za4 {H : AH} {J : Value} {ad : Fp} {z : Int} {O : List (Int × Int)} {r : Bool}
    (Z : WF H) (aa : Sq Zak 2 H J O ad) (Y : ZW z O = some r) :
    ACalls Tryz.prog 15 #[.agg #[i_ z, J]] H fun v H' => v = .bool r /\ FrS [] H H' := by
 refine ab_ Tryz.func15 ?_
 unfold ZW at Y
 refine sq_ fun ae => g_' ?_
 refine Z3 Z [i_ z, J] (Zd (rfl) (Zd (aa.one1) (ZN))) (by kernel_rfl) fun aj ai V ak ac => ?_
 refine qs_ 1 (Za (ae _ _ (sq_ fun ab => g_' (qs_ 1 (lr_ 3 0 (i_ z) ac ?_)))))
 refine Zgt (z = 0) (by kernel_rfl) (fun X => ?_) (fun X => ?_)
 ·have af := Zf X Y
  refine qs_ 2 (lr_ 28 1 (J) ac ?_)
  have ah := (aa.ext V)
  refine ah.ln_ 28 (qs_ 3 (Za (ab _ _ ?_)))
  refine Zp ?_
  refine br_ [.bool (decide ((O.length : Int) > 0))] ?_
  obtain rfl := oi_ af
  exact ⟨rfl, ((f0_ Z).extR V)⟩
 have ag := Zj X Y
 refine qs_ 7 (Za (ab _ _ ?_))
 refine Zp ?_
 refine br_ [.bool true] ?_
 obtain rfl := oi_ ag
 exact ⟨rfl, ((f0_ Z).extR V)⟩
theorem Ze8 {H : AH} {au : Nat} {Y : Value} {al : Fp} {Z : Value} {am : Fp} {aa : Int} {aA : List (Int × Int)} {ab : Int} {aB : List (Int × Int)} {r : Int × List (Int × Int)}
    (z : WF H) (ap : Sq Zak 2 H Y aA al) (aj : Sq Zak 2 H Z aB am) (ay : Row H au [i_ aa, Y, i_ ab, Z]) (az : Zbq aa aA ab aB = some r) :
    ACalls Tryz.prog 43 #[.slice (some ⟨au, 0, none⟩) 2 2] H fun v H' => ∃ (aG : Value) (ax : Fp), v = .agg #[i_ r.1, aG] /\ FrS [] H H' /\ Sq Zak 2 H' aG r.2 ax /\ Inn (al ++ am) H ax := by
 refine ab_ Tryz.func43 ?_
 unfold Zbq at az
 refine sq_ fun a9 => g_' ?_
 refine rk_ z [i_ 0, .slice none 0 0] fun ak bJ O ah ae => ?_
 refine Za (a9 _ _ (sq_ fun a0 => sn_ (Zl ?_)))
 refine ZdX ?_
 refine sn_ (sq_ fun a1 => ?_)
 refine wb_ true (fun _ => ?_) fun h => by cases h
 refine Zg (a1 _ _ (sq_ fun a2 => Zl (sq_ fun a3 => g_' (qs_ 1 ?_))))
 have aH := (ay.ext O)
 refine lr_ 30 0 (.agg #[i_ aa, Y]) aH ?_
 refine rk_ O.wf [i_ 0, .slice none 0 0] fun bK bD V ac bj => ?_
 have aI := ((ap.ext O).ext V)
 obtain ⟨bE, be, X, aC⟩ := Row.store (P := Tryz.prog) (t := 30) (p := 0) V.wf bj (.agg #[i_ aa, Y]) [i_ aa, Y] (by kernel_rfl) (by kernel_rfl) (Zd (rfl) (Zd (aI.one1) (ZN))) (Nat.le_of_ble_eq_true (by kernel_rfl)) [i_ aa, Y] (by kernel_rfl)
 refine ek_ be (Za (a3 _ _ (sq_ fun a4 => g_' (lr_ 30 0 (.agg #[i_ aa, Y]) aC ?_))))
 have aS := (ac.djn (ap.lt.le O.n))
 have aJ := (aI.fr X aS)
 obtain ⟨bB, aY, aD⟩ := bs_ az
 refine ck_ (Za4 X.wf aJ aY) ?_
 rintro _ bF ⟨rfl, J⟩
 refine Za (a4 _ _ ?_)
 refine wb_ (bB) (fun an => ?_) fun an => ?_
 ·have bk := Zf an aD
  refine sq_ fun a5 => g_' ?_
  have bt := (aC.frS J dn_)
  refine lr_ 30 0 (.agg #[i_ aa, Y]) bt ?_
  have bu := (((ae.ext V).frS X (ac.djn ae.ltF)).frS J dn_)
  have aK := (aJ.fr J dn_)
  obtain ⟨aO, bf, av, bl⟩ := Row.store (P := Tryz.prog) (t := 30) (p := 0) J.wf bu (.agg #[i_ aa, Y]) [i_ aa, Y] (by kernel_rfl) (by kernel_rfl) (Zd (rfl) (Zd (aK.one1) (ZN))) (Nat.le_of_ble_eq_true (by kernel_rfl)) [i_ aa, Y] (by kernel_rfl)
  refine ek_ bf (Za (a5 _ _ ?_))
  refine Zp (ZI (Zk (Zk (ZI (Zk ?_)))))
  refine ZX (vs := [.agg #[i_ aa, Y]]) (ZC (Eq.trans (b := aL_ 30 (pt_ ak 0) aO) (by kernel_rfl) (bl.l_)) (rfl)) ?_
  have bv := (aK.fr av (ah.djn ap.lt))
  obtain rfl := oi_ bk
  exact ⟨(Y), al, rfl, (fs_ z (fs_ z (fs_ z (((f0_ z).extR O).extR V) X (ac.fresh O.n)) J in_) av (ah.fresh (Nat.le_refl _))), bv, Inn.left⟩
 have bm := ZL an aD
 refine Zg (a2 _ _ (g_' (qs_ 2 (Za ?_))))
 refine ZdX ?_
 refine sn_ (sq_ fun a6 => ?_)
 refine wb_ true (fun _ => ?_) fun h => by cases h
 refine Zg (a6 _ _ (sq_ fun a7 => Zl (sq_ fun a8 => g_' (qs_ 1 ?_))))
 have aT := (ac.djn (ay.ltF.le O.n))
 have bw := (((aH.ext V).frS X aT).frS J dn_)
 refine lr_ 30 2 (.agg #[i_ ab, Z]) bw ?_
 refine rk_ J.wf [i_ 0, .slice none 0 0] fun bL bG af ai bn => ?_
 have aU := (ac.djn (aj.lt.le O.n))
 have aL := (((((aj.ext O).ext V).fr X aU).fr J dn_).ext af)
 obtain ⟨bH, bg, ag, aE⟩ := Row.store (P := Tryz.prog) (t := 30) (p := 0) af.wf bn (.agg #[i_ ab, Z]) [i_ ab, Z] (by kernel_rfl) (by kernel_rfl) (Zd (rfl) (Zd (aL.one1) (ZN))) (Nat.le_of_ble_eq_true (by kernel_rfl)) [i_ ab, Z] (by kernel_rfl)
 refine ek_ bg (Za (a8 _ _ (sq_ fun a_ => g_' (lr_ 30 0 (.agg #[i_ ab, Z]) aE ?_))))
 have aq := (t_ (t_ (t_ O.n V.n) X.n) J.n)
 have aV := (ai.djn (aj.lt.le aq))
 have aM := (aL.fr ag aV)
 obtain ⟨bC, aZ, aF⟩ := bs_ bm
 refine ck_ (Za4 ag.wf aM aZ) ?_
 rintro _ bI ⟨rfl, ad⟩
 refine Za (a_ _ _ ?_)
 refine wb_ (bC) (fun ao => ?_) fun ao => ?_
 ·have bo := Zf ao aF
  refine sq_ fun ba => g_' ?_
  have bx := (aE.frS ad dn_)
  refine lr_ 30 0 (.agg #[i_ ab, Z]) bx ?_
  have bc := (t_ (t_ V.n X.n) J.n)
  have aW := (ai.djn (ae.ltF.le bc))
  have bz := ((((((ae.ext V).frS X (ac.djn ae.ltF)).frS J dn_).ext af).frS ag aW).frS ad dn_)
  have aN := (aM.fr ad dn_)
  obtain ⟨aP, bh, aw, bp⟩ := Row.store (P := Tryz.prog) (t := 30) (p := 0) ad.wf bz (.agg #[i_ ab, Z]) [i_ ab, Z] (by kernel_rfl) (by kernel_rfl) (Zd (rfl) (Zd (aN.one1) (ZN))) (Nat.le_of_ble_eq_true (by kernel_rfl)) [i_ ab, Z] (by kernel_rfl)
  refine ek_ bh (Za (ba _ _ ?_))
  refine Zp (ZI (Zk (Zk (ZI (Zk ?_)))))
  refine ZX (vs := [.agg #[i_ ab, Z]]) (ZC (Eq.trans (b := aL_ 30 (pt_ ak 0) aP) (by kernel_rfl) (bp.l_)) (rfl)) ?_
  have bA := (aN.fr aw (ah.djn aj.lt))
  obtain rfl := oi_ bo
  exact ⟨(Z), am, rfl, (fs_ z (fs_ z (fs_ z ((fs_ z (fs_ z (((f0_ z).extR O).extR V) X (ac.fresh O.n)) J in_).extR af) ag (ai.fresh aq)) ad in_) aw (ah.fresh (Nat.le_refl _))), bA, (Inn.right ir_)⟩
 have bq := ZL ao aF
 refine Zg (a7 _ _ (g_' (qs_ 2 (Za ?_))))
 refine ZdX ?_
 refine sn_ (sq_ fun bM => ?_)
 refine wb_ false (fun h => by cases h) fun _ => ?_
 refine ZA (Zm (Zm (ZK ?_)))
 refine a0 _ _ (sq_ fun bb => g_' (qs_ 1 ?_))
 have bd := (t_ (t_ V.n X.n) J.n)
 have aR := (ai.djn (ae.ltF.le bd))
 have bs := ((((((ae.ext V).frS X (ac.djn ae.ltF)).frS J dn_).ext af).frS ag aR).frS ad dn_)
 obtain ⟨aQ, bi, aX, br⟩ := ra_ 30 0 ad.wf bs [i_ 0, .slice none 0 0] [i_ 0, .slice none 0 0]
 refine ek_ bi (Za (bb _ _ ?_))
 refine Zp ?_
 refine ZX (vs := [.agg #[i_ 0, .slice none 0 0]]) (ZC (Eq.trans (b := aL_ 30 (pt_ ak 0) aQ) (by kernel_rfl) (br.l_)) (rfl)) ?_
 obtain rfl := oi_ bq
 exact ⟨(.slice none 0 0), [], rfl, (fs_ z (fs_ z (fs_ z ((fs_ z (fs_ z (((f0_ z).extR O).extR V) X (ac.fresh O.n)) J in_).extR af) ag (ai.fresh aq)) ad in_) aX (ah.fresh (Nat.le_refl _))), (Sq.nil (by decide)), in_⟩
theorem ZdJ {H : AH} {a2 : Value} {cC : Fp} {an : Value} {cE : Fp} {a3 : Value} {cD : Fp} {am : Value} {cB : Fp} {a1 : Value} {cA : Fp} {bn : List (Int)} {Y : List (Int)} {bo : List (Int × Int × Int × Int)} {X : List (Int)} {bm : List (Int × Int × Int × Int)} {r : List (Int)}
    (aS : WF H) (cQ : Sq (Zh .u32) 1 H a2 bn cC) (a0 : Sq (Zh .u32) 1 H an Y cE) (cR : Sq Ze 4 H a3 bo cD) (aL : Sq (Zh .u32) 1 H am X cB) (cP : Sq Ze 4 H a1 bm cA) (bU : ZaI bn Y bo X bm = some r) :
    ACalls Tryz.prog 46 #[.agg #[a2, an, a3, am, a1]] H fun v H' => ∃ (cc : Value) (bB : Fp), v = cc /\ FrS [] H H' /\ Ow (Zh .i64) 1 H' cc r bB /\ Inn [] H bB := by
 refine ab_ Tryz.func46 ?_
 unfold ZaI at bU
 refine sq_ fun dx => g_' ?_
 refine Z3 aS [a2, an, a3, am, a1] (Zd (cQ.one1) (Zd (a0.one1) (Zd (cR.one1) (Zd (aL.one1) (Zd (cP.one1) (ZN)))))) (by kernel_rfl) fun aj aB O eC ao => ?_
 refine qs_ 1 (Za (dx _ _ (sn_ (sq_ fun da => sn_ ?_))))
 obtain ⟨a_, c3, dY⟩ := bs_ bU
 refine Zv (fun α ah => ∃ (bg : Value) (ad : Fp), Has α [(1, pt_ aj 0), (3, bg)] /\ FrS [] aB ah /\ Ow (Zh .i64) 1 ah bg a_ ad /\ Inn [] aB ad) (fun _ dq => ?_) (fun α ah hM => ?_)
 ·refine Zl ?_
  obtain ⟨b5, c0⟩ := Zr.1 c3
  refine Zy (fun n α ai => ∃ (ay : List (Int)), ∃ (z : Int), ∃ (bh : Value), ∃ (ac : Fp), ZD (fun zz_ => Zas Y zz_.1 zz_.2) n (ay, z) = some a_ /\ Has α [(1, pt_ aj 0), (3, bh), (4, i_ z)] /\ FrS [] aB ai /\ Ow (Zh .i64) 1 ai bh ay ac /\ Inn [] aB ac) b5 ⟨[], 0, (.slice none 0 0), [], c0, ha_, (fr_ O.wf), (Ow.nil (by decide)), in_⟩ ?_
  rintro b5 α ai ⟨ay, z, bh, ac, cW, bJ, aa, a8, aw⟩ et dr
  obtain ⟨dM, ej, rfl, aO, bS⟩ := Zt cW
  obtain ⟨β, rfl⟩ := Zi bJ
  clear bJ
  replace aO : Zas Y ay z = some ej := aO
  unfold Zas at aO
  obtain ⟨bt, b6, bz, rfl⟩ := a8.form
  refine sq_ fun dt => sq_ fun du => g_' (qs_ 1 ?_)
  obtain ⟨cN, ca⟩ := Zb aO
  refine w_' ((z + 1)) (Zn cN) (qs_ 1 ?_)
  have bl := (ao.frS aa dn_)
  refine lr_ 22 1 (an) bl ?_
  have aR := ((a0.ext O).fr aa dn_)
  refine aR.ln_ 22 (qs_ 1 (Za (du _ _ ?_)))
  refine wc_ ((z + 1) < (Y.length : Int)) (fun aq => ?_) fun aq => ?_
  ·have d9 := Zf aq ca
   refine Zg (dt _ _ (sq_ fun dv => Zl (sq_ fun dw => g_' (qs_ 1 (lr_ 22 1 (an) bl (qs_ 1 ?_))))))
   obtain ⟨aK, d_⟩ := Zb d9
   refine aR.ix_ 22 aK.1 aK.2 (le_ 60 0 (.int .u32 (gt Y z)) aR aK.1 aK.2 (qs_ 1 (Za (dw _ _ ?_))))
   obtain ⟨bb, c5, ea⟩ := bs_ d_
   refine Zv (fun α aW => ∃ (bi : Value) (aH : Fp), Has α [(1, pt_ aj 0), (3, bi), (4, i_ z)] /\ FrS ac ai aW /\ Ow (Zh .i64) 1 aW bi bb aH /\ Inn ac ai aH) (fun _ dy => ?_) (fun α aW hM => ?_)
   ·refine Zl ?_
    obtain ⟨b7, c1⟩ := Zr.1 c5
    refine Zy (fun n α aX => ∃ (ax : List (Int)), ∃ (ae : Int), ∃ (bj : Value), ∃ (aI : Fp), ZD (fun zz_ => ZaM Y z zz_.1 zz_.2) n (ax, ae) = some bb /\ Has α [(1, pt_ aj 0), (3, bj), (4, i_ z), (5, .int .u32 ae)] /\ FrS ac ai aX /\ Ow (Zh .i64) 1 aX bj ax aI /\ Inn ac ai aI) b7 ⟨ay, (gt Y z), (.slice bt b6 bz), ac, c1, ha_, (fr_ aa.wf), a8, ir_⟩ ?_
    rintro b7 α aX ⟨ax, ae, bj, aI, cX, bL, al, a9, a5⟩ eu dz
    obtain ⟨dN, ek, rfl, aP, bT⟩ := Zt cX
    obtain ⟨β, rfl⟩ := Zi bL
    clear bL
    replace aP : ZaM Y z ax ae = some ek := aP
    unfold ZaM at aP
    obtain ⟨cj, dO, co, rfl⟩ := a9.form
    refine sq_ fun dA => sq_ fun dB => g_' (qs_ 2 ?_)
    have ef := (bl.frS al (aw.djn ao.ltF))
    refine lr_ 22 1 (an) ef (qs_ 1 ?_)
    obtain ⟨cO, eb⟩ := Zb aP
    refine w_' ((z + 1)) (Zn (by have := cO; omega)) ?_
    obtain ⟨bD, cb⟩ := Zb eb
    have cr := (aw.djn (a0.lt.le O.n))
    have ce := (aR.fr al cr)
    refine ce.ix_ 22 bD aq (le_ 60 0 (.int .u32 (gt Y (z + 1))) ce bD aq (qs_ 1 (Za (dB _ _ ?_))))
    refine wc_ (ae < (gt Y (z + 1))) (fun aZ => ?_) fun aZ => ?_
    ·have dR := Zf aZ cb
     refine Zg (dA _ _ (sq_ fun c9 => Zl (g_' (qs_ 2 ?_))))
     refine ZaK (enc := (Zh .i64)) (sz := 1) al.wf [z] 1 (by decide) (fun _ _ => rfl) (fun _ _ => rfl) rfl (by kernel_rfl) fun eH eA el aC eD bM => ?_
     obtain ⟨ev, eF, ey, rfl⟩ := bM.form
     have ec := (a9.ext aC)
     obtain ⟨cF, dS⟩ := Zb dR
     obtain ⟨eI, em, cy, dP, ct, bN, cS⟩ := Ow.append (P := Tryz.prog) 8 aC.wf ec bM.sq (fun _ _ => rfl) (at_ := #[38, 38]) rfl rfl (by kernel_rfl) (by kernel_rfl) (by decide) (by have := cF; first | omega | (simp only [List.length_cons, List.length_nil] at this ⊢; omega) | (simp at this ⊢; omega))
     obtain ⟨bp, bZ, bu, rfl⟩ := bN.form
     refine ZbX (.slice bp bZ bu) (by kernel_rfl) (dP) ?_
     refine qs_ 1 (Za (c9 _ _ (g_' (qs_ 1 ?_))))
     obtain ⟨cG, dT⟩ := Zb dS
     refine s_w ((ae + 1)) (k := .u32) (x := (ae + 1)) (by kernel_rfl) (ZcX cG) ?_
     refine qs_ 1 (Za ?_)
     have dC := (t_ al.n aC.n)
     obtain rfl := oi_ dT
     exact dz dN _ _ lt_ ⟨(ax ++ [z]), (ae + 1), (.slice bp bZ bu), cy, bT, ha_, (fs_ aa.wf ((fs_ aa.wf (fr_ aa.wf) al ir_).extR aC) ct (Inn.trans ir_ (Nat.le_refl _) a5)), bN, (Inn.trans (Inn.trans ir_ (Nat.le_refl _) a5) dC cS)⟩
    have dU := Zj aZ cb
    refine ZA (Zm (Zm (ZK ?_)))
    obtain rfl := oi_ dU
    obtain rfl := Zw bT
    exact dy _ _ ⟨(.slice cj dO co), aI, ha_, (fs_ aa.wf (fr_ aa.wf) al ir_), a9, (Inn.trans ir_ (Nat.le_refl _) a5)⟩
   obtain ⟨bi, aH, bK, cx, bY, c8⟩ := hM
   obtain ⟨β, rfl⟩ := Zi bK
   clear bK
   obtain ⟨cf, dD, ck, rfl⟩ := bY.form
   refine dv _ _ (g_' (qs_ 1 ?_))
   obtain ⟨cH, dV⟩ := Zb ea
   refine w_' ((z + 1)) (Zn (by have := cH; omega)) (qs_ 1 (Za ?_))
   obtain rfl := oi_ dV
   exact dr dM _ _ lt_ ⟨bb, (z + 1), (.slice cf dD ck), aH, bS, ha_, (fs_ O.wf (fs_ O.wf (fr_ O.wf) aa in_) cx (aw.fresh (Nat.le_refl _))), bY, (Inn.trans (aw.fresh (Nat.le_refl _)) aa.n c8)⟩
  have dW := Zj aq ca
  refine ZA (Zm (Zm (ZK ?_)))
  obtain rfl := oi_ dW
  obtain rfl := Zw bS
  exact dq _ _ ⟨(.slice bt b6 bz), ac, ha_, (fs_ O.wf (fr_ O.wf) aa in_), a8, (aw.fresh (Nat.le_refl _))⟩
 obtain ⟨bg, ad, bI, V, bX, av⟩ := hM
 obtain ⟨β, rfl⟩ := Zi bI
 clear bI
 obtain ⟨cg, dE, cl, rfl⟩ := bX.form
 refine da _ _ (sq_ fun c_ => sn_ ?_)
 obtain ⟨b8, c2, dX⟩ := bs_ dY
 refine Zv (fun α aT => ∃ (bc : Value) (aE : Fp), Has α [(3, bc)] /\ FrS ad ah aT /\ Ow (Zh .i64) 1 aT bc b8 aE /\ Inn ad ah aE) (fun _ db => ?_) (fun α aT hM => ?_)
 ·refine Zl ?_
  obtain ⟨b0, cY⟩ := Zr.1 c2
  refine Zy (fun n α ag => ∃ (aA : List (Int)), ∃ (J : Int), ∃ (bd : Value), ∃ (ab : Fp), ZD (fun zz_ => Zar X zz_.1 zz_.2) n (aA, J) = some b8 /\ Has α [(1, pt_ aj 0), (3, bd), (6, i_ J)] /\ FrS ad ah ag /\ Ow (Zh .i64) 1 ag bd aA ab /\ Inn ad ah ab) b0 ⟨a_, 0, (.slice cg dE cl), ad, cY, ha_, (fr_ V.wf), bX, ir_⟩ ?_
  rintro b0 α ag ⟨aA, J, bd, ab, cU, bF, Z, a6, au⟩ eq dc
  obtain ⟨dF, eg, rfl, aM, bQ⟩ := Zt cU
  obtain ⟨β, rfl⟩ := Zi bF
  clear bF
  replace aM : Zar X aA J = some eg := aM
  unfold Zar at aM
  obtain ⟨bq, b1, bv, rfl⟩ := a6.form
  refine sq_ fun dd => sq_ fun de => g_' (qs_ 1 ?_)
  obtain ⟨cI, b9⟩ := Zb aM
  refine w_' ((J + 1)) (Zn cI) (qs_ 1 ?_)
  have bk := ((ao.frS V dn_).frS Z (av.djn ao.ltF))
  refine lr_ 22 3 (am) bk ?_
  have bA := (av.djn (aL.lt.le O.n))
  have aQ := (((aL.ext O).fr V dn_).fr Z bA)
  refine aQ.ln_ 22 (qs_ 1 (Za (de _ _ ?_)))
  refine wc_ ((J + 1) < (X.length : Int)) (fun ap => ?_) fun ap => ?_
  ·have dZ := Zf ap b9
   refine Zg (dd _ _ (sq_ fun df => Zl (sq_ fun dg => g_' (qs_ 1 (lr_ 22 3 (am) bk (qs_ 1 ?_))))))
   obtain ⟨aJ, d0⟩ := Zb dZ
   refine aQ.ix_ 22 aJ.1 aJ.2 (le_ 60 0 (.int .u32 (gt X J)) aQ aJ.1 aJ.2 (qs_ 1 (Za (dg _ _ ?_))))
   obtain ⟨ba, c4, d1⟩ := bs_ d0
   refine Zv (fun α aU => ∃ (be : Value) (aF : Fp), Has α [(1, pt_ aj 0), (3, be), (6, i_ J)] /\ FrS ab ag aU /\ Ow (Zh .i64) 1 aU be ba aF /\ Inn ab ag aF) (fun _ dh => ?_) (fun α aU hM => ?_)
   ·refine Zl ?_
    obtain ⟨b2, cZ⟩ := Zr.1 c4
    refine Zy (fun n α aV => ∃ (az : List (Int)), ∃ (af : Int), ∃ (bf : Value), ∃ (aG : Fp), ZD (fun zz_ => ZaP X J zz_.1 zz_.2) n (az, af) = some ba /\ Has α [(1, pt_ aj 0), (3, bf), (6, i_ J), (7, .int .u32 af)] /\ FrS ab ag aV /\ Ow (Zh .i64) 1 aV bf az aG /\ Inn ab ag aG) b2 ⟨aA, (gt X J), (.slice bq b1 bv), ab, cZ, ha_, (fr_ Z.wf), a6, ir_⟩ ?_
    rintro b2 α aV ⟨az, af, bf, aG, cV, bH, ak, a7, a4⟩ es di
    obtain ⟨dG, eh, rfl, aN, bR⟩ := Zt cV
    obtain ⟨β, rfl⟩ := Zi bH
    clear bH
    replace aN : ZaP X J az af = some eh := aN
    unfold ZaP at aN
    obtain ⟨ch, dH, cm, rfl⟩ := a7.form
    refine sq_ fun dk => sq_ fun dm => g_' (qs_ 2 ?_)
    have cp := (au.dj (av.djn ao.ltF) (ao.ltF.le V.n))
    have ed := (bk.frS ak cp)
    refine lr_ 22 3 (am) ed (qs_ 1 ?_)
    obtain ⟨cJ, d2⟩ := Zb aN
    refine w_' ((J + 1)) (Zn (by have := cJ; omega)) ?_
    obtain ⟨bC, b_⟩ := Zb d2
    have dI := (t_ O.n V.n)
    have cq := (au.dj bA (aL.lt.le dI))
    have cd := (aQ.fr ak cq)
    refine cd.ix_ 22 bC ap (le_ 60 0 (.int .u32 (gt X (J + 1))) cd bC ap (qs_ 1 (Za (dm _ _ ?_))))
    refine wc_ (af < (gt X (J + 1))) (fun aY => ?_) fun aY => ?_
    ·have d3 := Zf aY b_
     refine Zg (dk _ _ (sq_ fun dp => Zl (g_' (qs_ 2 ?_))))
     refine ZaK (enc := (Zh .i64)) (sz := 1) ak.wf [J] 1 (by decide) (fun _ _ => rfl) (fun _ _ => rfl) rfl (by kernel_rfl) fun eJ eB eo aD eE bO => ?_
     obtain ⟨ew, eG, ez, rfl⟩ := bO.form
     have ee := (a7.ext aD)
     obtain ⟨cK, d4⟩ := Zb d3
     obtain ⟨eK, ep, cz, dQ, cw, bP, cT⟩ := Ow.append (P := Tryz.prog) 8 aD.wf ee bO.sq (fun _ _ => rfl) (at_ := #[38, 38]) rfl rfl (by kernel_rfl) (by kernel_rfl) (by decide) (by have := cK; first | omega | (simp only [List.length_cons, List.length_nil] at this ⊢; omega) | (simp at this ⊢; omega))
     obtain ⟨br, b3, bw, rfl⟩ := bP.form
     refine ZbX (.slice br b3 bw) (by kernel_rfl) (dQ) ?_
     refine qs_ 1 (Za (dp _ _ (g_' (qs_ 1 ?_))))
     obtain ⟨cL, d5⟩ := Zb d4
     refine s_w ((af + 1)) (k := .u32) (x := (af + 1)) (by kernel_rfl) (ZcX cL) ?_
     refine qs_ 1 (Za ?_)
     have dJ := (t_ ak.n aD.n)
     obtain rfl := oi_ d5
     exact di dG _ _ lt_ ⟨(az ++ [J]), (af + 1), (.slice br b3 bw), cz, bR, ha_, (fs_ Z.wf ((fs_ Z.wf (fr_ Z.wf) ak ir_).extR aD) cw (Inn.trans ir_ (Nat.le_refl _) a4)), bP, (Inn.trans (Inn.trans ir_ (Nat.le_refl _) a4) dJ cT)⟩
    have d6 := Zj aY b_
    refine ZA (Zm (Zm (ZK ?_)))
    obtain rfl := oi_ d6
    obtain rfl := Zw bR
    exact dh _ _ ⟨(.slice ch dH cm), aG, ha_, (fs_ Z.wf (fr_ Z.wf) ak ir_), a7, (Inn.trans ir_ (Nat.le_refl _) a4)⟩
   obtain ⟨be, aF, bG, cv, bW, c7⟩ := hM
   obtain ⟨β, rfl⟩ := Zi bG
   clear bG
   obtain ⟨ci, dK, cn, rfl⟩ := bW.form
   refine df _ _ (g_' (qs_ 1 ?_))
   obtain ⟨cM, d7⟩ := Zb d1
   refine w_' ((J + 1)) (Zn (by have := cM; omega)) (qs_ 1 (Za ?_))
   obtain rfl := oi_ d7
   exact dc dF _ _ lt_ ⟨ba, (J + 1), (.slice ci dK cn), aF, bQ, ha_, (fs_ V.wf (fs_ V.wf (fr_ V.wf) Z ir_) cv (Inn.trans ir_ (Nat.le_refl _) au)), bW, (Inn.trans (Inn.trans ir_ (Nat.le_refl _) au) Z.n c7)⟩
  have d8 := Zj ap b9
  refine ZA (Zm (Zm (ZK ?_)))
  obtain rfl := oi_ d8
  obtain rfl := Zw bQ
  exact db _ _ ⟨(.slice bq b1 bv), ab, ha_, (fs_ V.wf (fr_ V.wf) Z ir_), a6, (Inn.trans ir_ (Nat.le_refl _) au)⟩
 obtain ⟨bc, aE, bE, cu, bV, c6⟩ := hM
 obtain ⟨β, rfl⟩ := Zi bE
 clear bE
 obtain ⟨bs, b4, bx, rfl⟩ := bV.form
 refine c_ _ _ (sn_ ?_)
 refine Zp ?_
 refine br_ [.slice bs b4 bx] ?_
 have dL := (t_ O.n V.n)
 obtain rfl := oi_ dX
 exact ⟨(.slice bs b4 bx), aE, rfl, (fs_ aS (fs_ aS ((f0_ aS).extR O) V in_) cu (av.fresh O.n)), bV, (Inn.trans (av.fresh O.n) dL c6)⟩
theorem ZaX {H : AH} {af : Value} {aB : Fp} {ag : Value} {aD : Fp} {X : Value} {aC : Fp} {ae : Value} {aA : Fp} {ab : Value} {az : Fp} {aj : List (Int)} {ak : List (Int)} {z : List (Int × Int × Int × Int)} {ai : List (Int)} {J : List (Int × Int × Int × Int)} {i : Int} {r : Int × Int × Int × Int}
    (Z : WF H) (aG : Sq (Zh .u32) 1 H af aj aB) (aH : Sq (Zh .u32) 1 H ag ak aD) (ao : Sq Ze 4 H X z aC) (aF : Sq (Zh .u32) 1 H ae ai aA) (an : Sq Ze 4 H ab J az) (ah : Z2 aj ak z ai J i = some r) :
    ACalls Tryz.prog 64 #[.agg #[af, ag, X, ae, ab], i_ i] H fun v H' => v = .agg #[.int .u32 r.1, .int .u64 r.2.1, .int .u32 r.2.2.1, .int .u32 r.2.2.2] /\ FrS [] H H' := by
 refine ab_ Tryz.func64 ?_
 unfold Z2 at ah
 refine sq_ fun aI => g_' ?_
 refine Z3 Z [af, ag, X, ae, ab] (Zd (aG.one1) (Zd (aH.one1) (Zd (ao.one1) (Zd (aF.one1) (Zd (an.one1) (ZN)))))) (by kernel_rfl) fun aZ aX V a0 aW => ?_
 refine rk_ V.wf [.int .u32 0, .int .u64 0, .int .u32 0, .int .u32 0] fun al aY O ap aq => ?_
 refine Za (aI _ _ (sq_ fun aJ => sq_ fun aK => g_' (qs_ 2 ?_)))
 have ac := (aW.ext O)
 refine lr_ 23 2 (X) ac ?_
 have ad := ((ao.ext V).ext O)
 refine ad.ln_ 23 (qs_ 1 (Za (aK _ _ ?_)))
 refine wc_ (i < (z.length : Int)) (fun Y => ?_) fun Y => ?_
 ·have aP := Zf Y ah
  refine sq_ fun aL => g_' (qs_ 1 (lr_ 23 2 (X) ac (qs_ 1 ?_)))
  obtain ⟨am, aQ⟩ := Zb aP
  refine ad.ix_ 23 am Y (le_ 62 0 (.agg #[.int .u32 ((gt z i).1), .int .u64 ((gt z i).2.1), .int .u32 ((gt z i).2.2.1), .int .u32 ((gt z i).2.2.2)]) ad am Y ?_)
  obtain ⟨av, aN, ax, aR⟩ := ra_ 62 0 O.wf aq [.int .u32 ((gt z i).1), .int .u64 ((gt z i).2.1), .int .u32 ((gt z i).2.2.1), .int .u32 ((gt z i).2.2.2)] [.int .u32 ((gt z i).1), .int .u64 ((gt z i).2.1), .int .u32 ((gt z i).2.2.1), .int .u32 ((gt z i).2.2.2)]
  refine ek_ aN (Za (aL _ _ ?_))
  refine Zp (Zk ?_)
  refine ZX (vs := [.agg #[.int .u32 ((gt z i).1), .int .u64 ((gt z i).2.1), .int .u32 ((gt z i).2.2.1), .int .u32 ((gt z i).2.2.2)]]) (ZC (Eq.trans (b := aL_ 62 (pt_ al 0) av) (by kernel_rfl) (aR.l_)) (rfl)) ?_
  obtain rfl := oi_ aQ
  exact ⟨rfl, (fs_ Z (((f0_ Z).extR V).extR O) ax (ap.fresh V.n))⟩
 have aS := Zj Y ah
 refine Zg (aJ _ _ (sq_ fun aM => g_' (qs_ 1 (lr_ 23 4 (ab) ac (qs_ 2 (lr_ 23 2 (X) ac (ad.ln_ 23 ?_)))))))
 obtain ⟨aE, aT⟩ := Zb aS
 refine w_' ((i - (z.length : Int))) (Zn aE) ?_
 obtain ⟨aa, aU⟩ := Zb aT
 have au := ((an.ext V).ext O)
 refine au.ix_ 23 aa.1 aa.2 (le_ 62 0 (.agg #[.int .u32 ((gt J (i - (z.length : Int))).1), .int .u64 ((gt J (i - (z.length : Int))).2.1), .int .u32 ((gt J (i - (z.length : Int))).2.2.1), .int .u32 ((gt J (i - (z.length : Int))).2.2.2)]) au aa.1 aa.2 ?_)
 obtain ⟨aw, aO, ay, aV⟩ := ra_ 62 0 O.wf aq [.int .u32 ((gt J (i - (z.length : Int))).1), .int .u64 ((gt J (i - (z.length : Int))).2.1), .int .u32 ((gt J (i - (z.length : Int))).2.2.1), .int .u32 ((gt J (i - (z.length : Int))).2.2.2)] [.int .u32 ((gt J (i - (z.length : Int))).1), .int .u64 ((gt J (i - (z.length : Int))).2.1), .int .u32 ((gt J (i - (z.length : Int))).2.2.1), .int .u32 ((gt J (i - (z.length : Int))).2.2.2)]
 refine ek_ aO (Za (aM _ _ ?_))
 refine Zp ?_
 refine ZX (vs := [.agg #[.int .u32 ((gt J (i - (z.length : Int))).1), .int .u64 ((gt J (i - (z.length : Int))).2.1), .int .u32 ((gt J (i - (z.length : Int))).2.2.1), .int .u32 ((gt J (i - (z.length : Int))).2.2.2)]]) (ZC (Eq.trans (b := aL_ 62 (pt_ al 0) aw) (by kernel_rfl) (aV.l_)) (rfl)) ?_
 obtain rfl := oi_ aU
 exact ⟨rfl, (fs_ Z (((f0_ Z).extR V).extR O) ay (ap.fresh V.n))⟩
theorem ZdR {H : AH} {O : Int} {V : Int} {z : Int} {J : Int} {r : Bool}
    (Z : WF H) (Y : ZaH O V z J = some r) :
    ACalls Tryz.prog 65 #[.agg #[.int .u32 O, .int .u64 V, .int .u32 z, .int .u32 J]] H fun v H' => v = .bool r /\ FrS [] H H' := by
 refine ab_ Tryz.func65 ?_
 unfold ZaH at Y
 refine sq_ fun ad => g_' ?_
 refine rl_ Z [.int .u32 O, .int .u64 V, .int .u32 z, .int .u32 J] fun ah ag aa ai ac => ?_
 refine qs_ 1 (Za (ad _ _ (sq_ fun ab => g_' (qs_ 1 (lr_ 60 2 (.int .u32 z) ac ?_)))))
 refine sb_ (z = 4294967295) (fun X => ?_) fun X => ?_
 ·have ae := Zf X Y
  refine qs_ 2 (lr_ 60 3 (.int .u32 J) ac (qs_ 3 (Za (ab _ _ ?_))))
  refine Zp ?_
  refine br_ [.bool (decide (J = 4294967295))] ?_
  obtain rfl := oi_ ae
  exact ⟨rfl, ((f0_ Z).extR aa)⟩
 have af := Zj X Y
 refine qs_ 6 (Za (ab _ _ ?_))
 refine Zp ?_
 refine br_ [.bool false] ?_
 obtain rfl := oi_ af
 exact ⟨rfl, ((f0_ Z).extR aa)⟩
theorem Zca {H : AH} {ad : Value} {aK : Fp} {ae : Value} {aM : Fp} {aa : Value} {aL : Fp} {ac : Value} {aJ : Fp} {ab : Value} {aI : Fp} {ay : Value} {aN : Fp} {al : List (Int)} {am : List (Int)} {ah : List (Int × Int × Int × Int)} {ak : List (Int)} {aj : List (Int × Int × Int × Int)} {ranks : List (Int)} {i : Int} {r : Int × Int × Int}
    (Y : WF H) (aq : Sq (Zh .u32) 1 H ad al aK) (av : Sq (Zh .u32) 1 H ae am aM) (au : Sq Ze 4 H aa ah aL) (ap : Sq (Zh .u32) 1 H ac ak aJ) (ao : Sq Ze 4 H ab aj aI) (aw : Sq (Zh .i64) 1 H ay ranks aN) (az : Zae al am ah ak aj ranks i = some r) :
    ACalls Tryz.prog 102 #[.agg #[ad, ae, aa, ac, ab], ay, i_ i] H fun v H' => v = .agg #[i_ r.1, i_ r.2.1, i_ r.2.2] /\ FrS [] H H' := by
 refine ab_ Tryz.func102 ?_
 unfold Zae at az
 refine sq_ fun aQ => g_' ?_
 refine Z3 Y [ad, ae, aa, ac, ab] (Zd (aq.one1) (Zd (av.one1) (Zd (au.one1) (Zd (ap.one1) (Zd (ao.one1) (ZN)))))) (by kernel_rfl) fun bg be z bh a5 => ?_
 refine rk_ z.wf [i_ 0, i_ 0, i_ 0] fun an bf J ax aA => ?_
 refine Za (aQ _ _ (sq_ fun aR => g_' ?_))
 have aC := (a5.ext J)
 refine lr_ 25 0 (.agg #[ad, ae, aa, ac, ab]) aC (qs_ 1 ?_)
 have a6 := ((aq.ext z).ext J)
 have a7 := ((av.ext z).ext J)
 have aD := ((au.ext z).ext J)
 have a8 := ((ap.ext z).ext J)
 have a9 := ((ao.ext z).ext J)
 obtain ⟨Z, aP, aY⟩ := bs_ az
 refine ck_ (ZaX J.wf a6 a7 aD a8 a9 aP) ?_
 rintro _ bd ⟨rfl, O⟩
 refine qs_ 1 ?_
 obtain ⟨aO, aB⟩ := Zb aY
 refine w_' (Z.1) (Zn aO) (qs_ 1 (Za (aR _ _ (sq_ fun aS => sq_ fun aT => g_' (qs_ 2 ?_)))))
 have a_ := (aC.frS O dn_)
 refine lr_ 23 2 (aa) a_ ?_
 have ba := (aD.fr O dn_)
 refine ba.ln_ 23 (qs_ 1 (Za (aT _ _ ?_)))
 refine wc_ (i < (ah.length : Int)) (fun ai => ?_) fun ai => ?_
 ·have aZ := Zf ai aB
  refine sq_ fun aU => ?_
  refine ZJ [0, 1, 2, 3, 4, 5, 6, 7, 8, 9, 10] (by kernel_rfl) ?_
  refine es_ 2 ?_
  obtain ⟨V, a0⟩ := Zb aZ
  have af := (((aw.ext z).ext J).fr O dn_)
  refine af.mx_ 38 V.1 V.2 (me_ 3 0 (i_ (gt ranks i)) af V.1 V.2 (es_ 3 (af.mx_ 38 V.1 V.2 (me_ 3 0 (i_ (gt ranks i)) af V.1 V.2 (es_ 1 ?_)))))
  have bb := (aA.frS O dn_)
  obtain ⟨aE, aW, aG, a1⟩ := ra_ 127 0 O.wf bb [i_ (gt ranks i), i_ Z.1, i_ (gt ranks i)] [i_ (gt ranks i), i_ Z.1, i_ (gt ranks i)]
  refine fk_ aW (ZP) ?_
  refine ZE ?_
  refine aU _ _ ?_
  refine Zp (Zk ?_)
  refine ZX (vs := [.agg #[i_ (gt ranks i), i_ Z.1, i_ (gt ranks i)]]) (ZC (Eq.trans (b := aL_ 127 (pt_ an 0) aE) (by kernel_rfl) (a1.l_)) (rfl)) ?_
  obtain rfl := oi_ a0
  exact ⟨rfl, (fs_ Y (fs_ Y (((f0_ Y).extR z).extR J) O in_) aG (ax.fresh z.n))⟩
 have a2 := Zj ai aB
 refine Zg (aS _ _ (sq_ fun aV => ?_))
 refine ZJ [0, 1, 2, 3, 4, 5, 6, 7, 8, 9, 10] (by kernel_rfl) ?_
 refine es_ 3 ?_
 obtain ⟨X, a3⟩ := Zb a2
 have ag := (((aw.ext z).ext J).fr O dn_)
 refine ag.mx_ 38 X.1 X.2 (me_ 3 0 (i_ (gt ranks i)) ag X.1 X.2 (es_ 2 (ag.mx_ 38 X.1 X.2 (me_ 3 0 (i_ (gt ranks i)) ag X.1 X.2 (es_ 1 ?_)))))
 have bc := (aA.frS O dn_)
 obtain ⟨aF, aX, aH, a4⟩ := ra_ 127 0 O.wf bc [i_ Z.1, i_ (gt ranks i), i_ (gt ranks i)] [i_ Z.1, i_ (gt ranks i), i_ (gt ranks i)]
 refine fk_ aX (ZP) ?_
 refine ZE ?_
 refine aV _ _ ?_
 refine Zp ?_
 refine ZX (vs := [.agg #[i_ Z.1, i_ (gt ranks i), i_ (gt ranks i)]]) (ZC (Eq.trans (b := aL_ 127 (pt_ an 0) aF) (by kernel_rfl) (a4.l_)) (rfl)) ?_
 obtain rfl := oi_ a3
 exact ⟨rfl, (fs_ Y (fs_ Y (((f0_ Y).extR z).extR J) O in_) aH (ax.fresh z.n))⟩
end Go.Vd

/-! (KWt6) -/

set_option maxRecDepth 100000
set_option maxHeartbeats 4000000
set_option linter.unusedVariables false
namespace Go.Vd
open Go.Proofs
attribute [local irreducible] Zs Zu aWp
theorem Zfr {H : AH} {a1 : Value} {gX : Fp} {a9 : Value} {gZ : Fp} {aR : Value} {gY : Fp} {a8 : Value} {gW : Fp} {a0 : Value} {gV : Fp} {bq : Value} {g0 : Fp} {bo : List (Int)} {cw : List (Int)} {aQ : List (Int × Int × Int × Int)} {co : List (Int)} {aV : List (Int × Int × Int × Int)} {ranks : List (Int)} {i : Int} {r : Int × List (Int × Int)}
    (z : WF H) (a5 : Sq (Zh .u32) 1 H a1 bo gX) (a6 : Sq (Zh .u32) 1 H a9 cw gZ) (aT : Sq Ze 4 H aR aQ gY) (a4 : Sq (Zh .u32) 1 H a8 co gW) (a3 : Sq Ze 4 H a0 aV gV) (a7 : Sq (Zh .i64) 1 H bq ranks g0) (cS : ZbE bo cw aQ co aV ranks i = some r) :
    ACalls Tryz.prog 47 #[.agg #[a1, a9, aR, a8, a0], bq, i_ i] H fun v H' => ∃ (dp : Value) (cL : Fp), v = .agg #[i_ r.1, dp] /\ FrS [] H H' /\ Ow Zak 2 H' dp r.2 cL /\ Inn [] H cL := by
 refine ab_ Tryz.func47 ?_
 unfold ZbE at cS
 refine sq_ fun hQ => g_' ?_
 refine Z3 z [a1, a9, aR, a8, a0] (Zd (a5.one1) (Zd (a6.one1) (Zd (aT.one1) (Zd (a4.one1) (Zd (a3.one1) (ZN)))))) (by kernel_rfl) fun aM mE aj mI bd => ?_
 refine rk_ aj.wf [i_ 0, .slice none 0 0] fun aP bO ak aZ ah => ?_
 refine Za (hQ _ _ (sq_ fun hw => ?_))
 refine ZJ [0, 1, 3, 4, 5, 6, 7, 8, 9, 10, 11, 12, 13, 2, 14, 15, 16] (by kernel_rfl) ?_
 have bs := (bd.ext ak)
 refine mr_ 25 0 (.agg #[a1, a9, aR, a8, a0]) bs (es_ 2 ?_)
 refine ZcR (a1) (x := aL_ 22 (pt_ aM 0) bO) (by kernel_rfl) (bs.l_) ?_
 have dv := ((a5.ext aj).ext ak)
 refine dv.mn_ 22 (es_ 1 ?_)
 refine ZcR (aR) (x := aL_ 23 (pt_ aM 2) bO) (by kernel_rfl) (bs.l_) ?_
 have dw := ((aT.ext aj).ext ak)
 refine dw.mn_ 23 (es_ 1 ?_)
 refine ZcR (a0) (x := aL_ 23 (pt_ aM 4) bO) (by kernel_rfl) (bs.l_) ?_
 have dx := ((a3.ext aj).ext ak)
 refine dx.mn_ 23 ?_
 obtain ⟨g3, kC⟩ := Zb cS
 refine d_w (((aQ.length : Int) + (aV.length : Int))) (k := .i64) (x := ((aQ.length : Int) + (aV.length : Int))) (by kernel_rfl) (Zn g3) ?_
 refine Zem ak.wf [.int .u32 0, .int .u64 0, .int .u32 0, .int .u32 0] (by kernel_rfl) fun aS mt Z ap bi => ?_
 have cf := (dv.ext Z)
 have cg := (((a6.ext aj).ext ak).ext Z)
 have bI := (dw.ext Z)
 have ch := (((a4.ext aj).ext ak).ext Z)
 have ci := (dx.ext Z)
 obtain ⟨am, hk, kZ⟩ := bs_ kC
 refine dk_ (ZaX Z.wf cf cg bI ch ci hk) ?_
 rintro _ bP ⟨rfl, O⟩
 have bK := ((bs.ext Z).frS O dn_)
 refine ⟨Zbb (y := aL_ 23 (pt_ aM 4) bP) (by kernel_rfl) (bK.l_) (Zbb (y := aL_ 23 (pt_ aM 2) bP) (by kernel_rfl) (bK.l_) (Zbb (y := aL_ 22 (pt_ aM 0) bP) (by kernel_rfl) (bK.l_) (ZP))), ?_⟩
 have lW := (bi.frS O dn_)
 obtain ⟨bQ, j8, V, ce⟩ := ra_ 62 0 O.wf lW [.int .u32 am.1, .int .u64 am.2.1, .int .u32 am.2.2.1, .int .u32 am.2.2.2] [.int .u32 am.1, .int .u64 am.2.1, .int .u32 am.2.2.1, .int .u32 am.2.2.2]
 have fk := (ap.djn (bd.ltF.le ak.n))
 have bm := (bK.frS V fk)
 refine fk_ j8 (Zbb (y := aL_ 23 (pt_ aM 4) bQ) (by kernel_rfl) (bm.l_) (Zbb (y := aL_ 23 (pt_ aM 2) bQ) (by kernel_rfl) (bm.l_) (Zbb (y := aL_ 22 (pt_ aM 0) bQ) (by kernel_rfl) (bm.l_) (ZP)))) (es_ 2 ?_)
 refine ZE ?_
 refine hw _ _ (sq_ fun hL => g_' (qs_ 1 ?_))
 obtain ⟨mN, ho, la⟩ := bs_ kZ
 refine ck_ (ZaC V.wf ho) ?_
 rintro _ mA ⟨rfl, J⟩
 obtain ⟨aO, hq, lc⟩ := bs_ la
 refine ck_ (ZcN J.wf (Sq.nil (enc := Zak) (sz := 2) (by decide)) hq) ?_
 rintro _ mC ⟨mK, bw, rfl, X, a2, bh⟩
 obtain ⟨aI, aK, aJ, rfl⟩ := a2.form
 refine rk_ X.wf [i_ 0, .slice none 0 0] fun bv mD ab an bl => ?_
 have bL := (a2.ext ab)
 obtain ⟨bS, kh, Y, bE⟩ := ra_ 30 0 ab.wf bl [i_ aO.1, .slice aI aK aJ] [i_ aO.1, .slice aI aK aJ]
 refine ek_ kh (Za (hL _ _ (sq_ fun hV => sq_ fun hW => ?_)))
 obtain ⟨c2, he, dk⟩ := bs_ lc
 refine Zv (fun α cv => Has α [(1, bq), (2, i_ i), (3, pt_ aM 0), (6, pt_ aP 0), (7, pt_ aS 0), (9, i_ ((aQ.length : Int) + (aV.length : Int))), (10, pt_ bv 0), (48, .bool c2)] /\ bS = cv) (fun _ cV => ?_) (fun α cv hM => ?_)
 ·refine ZJ [0, 1, 2, 3, 4, 5, 6, 7, 8, 9, 10, 11, 12, 13, 14, 15] (by kernel_rfl) ?_
  refine es_ 1 ?_
  have j1 := (t_ (t_ (t_ O.n V.n) J.n) X.n)
  have gS := (an.djn (bi.ltF.le j1))
  have d2 := ((((ce.frS J dn_).frS X dn_).ext ab).frS Y gS)
  refine mr_ 60 0 (.int .u32 am.1) d2 ?_
  obtain ⟨ha, ls⟩ := Zb he
  refine d_w (am.1) (k := .u64) (x := am.1) (by kernel_rfl) (Zag ha) ?_
  refine es_ 1 ?_
  obtain ⟨hb, dm⟩ := Zb ls
  refine d_w ((bo.length : Int)) (k := .u64) (x := (bo.length : Int)) (by kernel_rfl) (Zag (by have := hb; omega)) ?_
  refine db_ (am.1 ≥ (bo.length : Int)) (fun ca => ?_) fun ca => ?_
  ·have lu := Zf ca dm
   refine es_ 10 ?_
   refine ZE ?_
   obtain rfl := oi_ lu
   exact cV _ _ ⟨ha_, rfl⟩
  have lv := Zj ca dm
  refine es_ 2 (mr_ 60 0 (.int .u32 am.1) d2 ?_)
  obtain ⟨hc, kj⟩ := Zb lv
  refine d_w (am.1) (k := .i64) (x := am.1) (by kernel_rfl) (Zn (by have := hc; omega)) ?_
  refine es_ 2 ?_
  obtain ⟨bx, kk⟩ := Zb kj
  have hX := (t_ aj.n ak.n)
  have el := (ap.djn (a7.lt.le hX))
  have hY := (t_ (t_ (t_ (t_ (t_ (t_ aj.n ak.n) Z.n) O.n) V.n) J.n) X.n)
  have em := (an.djn (a7.lt.le hY))
  have dq := (((((((((a7.ext aj).ext ak).ext Z).fr O dn_).fr V el).fr J dn_).fr X dn_).ext ab).fr Y em)
  refine dq.mx_ 38 bx.1 bx.2 (me_ 3 0 (i_ (gt ranks i)) dq bx.1 bx.2 (es_ 2 ?_))
  refine ZE ?_
  obtain rfl := oi_ kk
  exact cV _ _ ⟨ha_, rfl⟩
 obtain ⟨cR, rfl⟩ := hM
 obtain ⟨β, rfl⟩ := Zi cR
 clear cR
 refine hW _ _ ?_
 refine wb_ (c2) (fun bT => ?_) fun bT => ?_
 ·have kl := Zf bT dk
  refine sq_ fun hs => g_' (lr_ 30 0 (.agg #[i_ aO.1, .slice aI aK aJ]) bE ?_)
  have hZ := (t_ (t_ (t_ (t_ Z.n O.n) V.n) J.n) X.n)
  have eo := (an.djn (ah.ltF.le hZ))
  have lw := (((((((ah.ext Z).frS O dn_).frS V (ap.djn ah.ltF)).frS J dn_).frS X dn_).ext ab).frS Y eo)
  have lx := (bL.fr Y (an.djn a2.lt))
  obtain ⟨d3, j2, cB, km⟩ := ra_ 30 0 Y.wf lw [i_ aO.1, .slice aI aK aJ] [i_ aO.1, .slice aI aK aJ]
  refine ek_ j2 (Za (hs _ _ ?_))
  refine Zp (Zk ?_)
  refine ZX (vs := [.agg #[i_ aO.1, .slice aI aK aJ]]) (ZC (Eq.trans (b := aL_ 30 (pt_ aP 0) d3) (by kernel_rfl) (km.l_)) (rfl)) ?_
  have h0 := (t_ aj.n ak.n)
  have h1 := (t_ (t_ (t_ (t_ (t_ (t_ aj.n ak.n) Z.n) O.n) V.n) J.n) X.n)
  have h2 := (t_ (t_ (t_ Z.n O.n) V.n) J.n)
  have ep := (bh.djn (ah.ltF.le h2))
  have ly := (lx.fr cB (Dj.symm ep))
  have h3 := (t_ (t_ (t_ (t_ (t_ aj.n ak.n) Z.n) O.n) V.n) J.n)
  obtain rfl := oi_ kl
  exact ⟨(.slice aI aK aJ), bw, rfl, (fs_ z (fs_ z ((fs_ z (fs_ z (fs_ z (fs_ z ((((f0_ z).extR aj).extR ak).extR Z) O in_) V (ap.fresh h0)) J in_) X in_).extR ab) Y (an.fresh h1)) cB (aZ.fresh aj.n)), ly, (bh.fresh h3)⟩
 have kn := ZL bT dk
 refine Zg (hV _ _ (sq_ fun ht => sq_ fun hu => ?_))
 obtain ⟨cZ, cT, c3⟩ := bs_ kn
 refine Zv (fun α cp => Has α [(1, bq), (2, i_ i), (3, pt_ aM 0), (6, pt_ aP 0), (7, pt_ aS 0), (9, i_ ((aQ.length : Int) + (aV.length : Int))), (10, pt_ bv 0), (80, .bool cZ)] /\ FrS [] bS cp) (fun _ bB => ?_) (fun α cp hM => ?_)
 ·refine ZJ [0, 1, 2, 3, 4, 5, 6, 7, 8, 9, 10, 11, 12, 13, 14, 15, 16, 17, 18, 19, 20, 21, 22, 23, 24, 25, 26, 27, 28, 29, 30] (by kernel_rfl) ?_
  refine es_ 1 ?_
  refine ZjB (i = 0) (by kernel_rfl) (fun bU => ?_) (fun bU => ?_)
  ·have ko := Zf bU cT
   refine es_ 29 ?_
   refine ZE ?_
   obtain rfl := oi_ ko
   exact bB _ _ ⟨ha_, (fr_ Y.wf)⟩
  have c4 := Zj bU cT
  refine es_ 3 ?_
  have h4 := (t_ (t_ (t_ (t_ (t_ ak.n Z.n) O.n) V.n) J.n) X.n)
  have eq := (an.djn (bd.ltF.le h4))
  have dr := ((((bm.frS J dn_).frS X dn_).ext ab).frS Y eq)
  refine mr_ 23 2 (aR) dr ?_
  have bj := (t_ aj.n ak.n)
  have es := (ap.djn (aT.lt.le bj))
  have bk := (t_ (t_ (t_ (t_ (t_ (t_ aj.n ak.n) Z.n) O.n) V.n) J.n) X.n)
  have et := (an.djn (aT.lt.le bk))
  have dt := ((((((bI.fr O dn_).fr V es).fr J dn_).fr X dn_).ext ab).fr Y et)
  refine dt.mn_ 23 ?_
  refine ZjB (i = (aQ.length : Int)) (by kernel_rfl) (fun bV => ?_) (fun bV => ?_)
  ·have kp := Zf bV c4
   refine es_ 23 ?_
   refine ZE ?_
   obtain rfl := oi_ kp
   exact bB _ _ ⟨ha_, (fr_ Y.wf)⟩
  have kq := Zj bV c4
  refine es_ 4 ?_
  obtain ⟨g1, kr⟩ := Zb kq
  refine d_w ((i - 1)) (k := .i64) (x := (i - 1)) (by kernel_rfl) (Zn g1) ?_
  obtain ⟨bz, ks⟩ := Zb kr
  have eu := (ap.djn (a7.lt.le bj))
  have ev := (an.djn (a7.lt.le bk))
  have bF := (((((((((a7.ext aj).ext ak).ext Z).fr O dn_).fr V eu).fr J dn_).fr X dn_).ext ab).fr Y ev)
  refine bF.mx_ 38 bz.1 bz.2 (me_ 3 0 (i_ (gt ranks (i - 1))) bF bz.1 bz.2 (es_ 2 ?_))
  obtain ⟨bA, c5⟩ := Zb ks
  refine bF.mx_ 38 bA.1 bA.2 (me_ 3 0 (i_ (gt ranks i)) bF bA.1 bA.2 ?_)
  refine db_ ((gt ranks (i - 1)) = (gt ranks i)) (fun bW => ?_) fun bW => ?_
  ·have kt := Zf bW c5
   refine es_ 3 ?_
   have h5 := (t_ (t_ (t_ O.n V.n) J.n) X.n)
   have ew := (an.djn (bi.ltF.le h5))
   have du := ((((ce.frS J dn_).frS X dn_).ext ab).frS Y ew)
   refine ZcR (.int .u32 am.1) (x := aL_ 60 (pt_ aS 0) bS) (by kernel_rfl) (du.l_) ?_
   refine mr_ 25 0 (.agg #[a1, a9, aR, a8, a0]) dr (es_ 1 ?_)
   obtain ⟨g2, ku⟩ := Zb kt
   refine d_w ((i - 1)) (k := .i64) (x := (i - 1)) (by kernel_rfl) (Zn (by have := g2; omega)) ?_
   have ey := (ap.djn (a5.lt.le bj))
   have ez := (an.djn (a5.lt.le bk))
   have lz := ((((((cf.fr O dn_).fr V ey).fr J dn_).fr X dn_).ext ab).fr Y ez)
   have eA := (ap.djn (a6.lt.le bj))
   have eB := (an.djn (a6.lt.le bk))
   have lA := ((((((cg.fr O dn_).fr V eA).fr J dn_).fr X dn_).ext ab).fr Y eB)
   have eC := (ap.djn (a4.lt.le bj))
   have eD := (an.djn (a4.lt.le bk))
   have lB := ((((((ch.fr O dn_).fr V eC).fr J dn_).fr X dn_).ext ab).fr Y eD)
   have eE := (ap.djn (a3.lt.le bj))
   have eF := (an.djn (a3.lt.le bk))
   have lC := ((((((ci.fr O dn_).fr V eE).fr J dn_).fr X dn_).ext ab).fr Y eF)
   obtain ⟨mL, hf, kv⟩ := bs_ ku
   refine dk_ (ZaX Y.wf lz lA dt lB lC hf) ?_
   rintro _ d4 ⟨rfl, cC⟩
   have lD := (du.frS cC dn_)
   refine ⟨Zbb (y := aL_ 60 (pt_ aS 0) d4) (by kernel_rfl) (lD.l_) (ZP), ?_⟩
   refine es_ 3 ?_
   refine ZE ?_
   obtain rfl := oi_ kv
   exact bB _ _ ⟨ha_, (fs_ Y.wf (fr_ Y.wf) cC in_)⟩
  have kw := Zj bW c5
  refine es_ 11 ?_
  refine ZE ?_
  obtain rfl := oi_ kw
  exact bB _ _ ⟨ha_, (fr_ Y.wf)⟩
 obtain ⟨cO, ac⟩ := hM
 obtain ⟨β, rfl⟩ := Zi cO
 clear cO
 refine hu _ _ ?_
 refine wb_ (cZ) (fun bX => ?_) fun bX => ?_
 ·have kx := Zf bX c3
  refine sq_ fun hv => g_' ?_
  have lE := (bE.frS ac dn_)
  refine lr_ 30 0 (.agg #[i_ aO.1, .slice aI aK aJ]) lE ?_
  have h6 := (t_ (t_ (t_ (t_ Z.n O.n) V.n) J.n) X.n)
  have eG := (an.djn (ah.ltF.le h6))
  have lF := ((((((((ah.ext Z).frS O dn_).frS V (ap.djn ah.ltF)).frS J dn_).frS X dn_).ext ab).frS Y eG).frS ac dn_)
  have lG := ((bL.fr Y (an.djn a2.lt)).fr ac dn_)
  obtain ⟨d5, j3, cD, ky⟩ := ra_ 30 0 ac.wf lF [i_ aO.1, .slice aI aK aJ] [i_ aO.1, .slice aI aK aJ]
  refine ek_ j3 (Za (hv _ _ ?_))
  refine Zp (Zk ?_)
  refine ZX (vs := [.agg #[i_ aO.1, .slice aI aK aJ]]) (ZC (Eq.trans (b := aL_ 30 (pt_ aP 0) d5) (by kernel_rfl) (ky.l_)) (rfl)) ?_
  have h7 := (t_ aj.n ak.n)
  have h8 := (t_ (t_ (t_ (t_ (t_ (t_ aj.n ak.n) Z.n) O.n) V.n) J.n) X.n)
  have h9 := (t_ (t_ (t_ Z.n O.n) V.n) J.n)
  have eH := (bh.djn (ah.ltF.le h9))
  have lH := (lG.fr cD (Dj.symm eH))
  have h_ := (t_ (t_ (t_ (t_ (t_ aj.n ak.n) Z.n) O.n) V.n) J.n)
  obtain rfl := oi_ kx
  exact ⟨(.slice aI aK aJ), bw, rfl, (fs_ z (fs_ z (fs_ z ((fs_ z (fs_ z (fs_ z (fs_ z ((((f0_ z).extR aj).extR ak).extR Z) O in_) V (ap.fresh h7)) J in_) X in_).extR ab) Y (an.fresh h8)) ac in_) cD (aZ.fresh aj.n)), lH, (bh.fresh h_)⟩
 have kz := ZL bX c3
 refine Zg (ht _ _ (sq_ fun hx => g_' (qs_ 1 ?_)))
 obtain ⟨mM, hg, kA⟩ := bs_ kz
 refine ck_ (ZaC ac.wf hg) ?_
 rintro _ mp ⟨rfl, ad⟩
 obtain ⟨aL, hh, kB⟩ := bs_ kA
 refine ck_ (ZcN ad.wf (Sq.nil (enc := Zak) (sz := 2) (by decide)) hh) ?_
 rintro _ mq ⟨mJ, bp, rfl, af, aN, a_⟩
 obtain ⟨aD, aF, aE, rfl⟩ := aN.form
 refine rk_ af.wf [i_ 0, .slice none 0 0] fun cx mr ag ao aU => ?_
 have bt := (aN.ext ag)
 obtain ⟨ms, j4, ae, br⟩ := ra_ 30 0 ag.wf aU [i_ aL.1, .slice aD aF aE] [i_ aL.1, .slice aD aF aE]
 refine ek_ j4 (Za (hx _ _ (sq_ fun hy => sq_ fun hz => g_' ?_)))
 have ia := (t_ (t_ (t_ O.n V.n) J.n) X.n)
 have eI := (an.djn (bi.ltF.le ia))
 have ib := (t_ (t_ (t_ (t_ (t_ (t_ (t_ (t_ O.n V.n) J.n) X.n) ab.n) Y.n) ac.n) ad.n) af.n)
 have eJ := (ao.djn (bi.ltF.le ib))
 have bG := (((((((((ce.frS J dn_).frS X dn_).ext ab).frS Y eI).frS ac dn_).frS ad dn_).frS af dn_).ext ag).frS ae eJ)
 refine lr_ 62 0 (.agg #[.int .u32 am.1, .int .u64 am.2.1, .int .u32 am.2.2.1, .int .u32 am.2.2.2]) bG ?_
 obtain ⟨mo, hj, c6⟩ := bs_ kB
 refine ck_ (ZdR ae.wf hj) ?_
 rintro _ bn ⟨rfl, aa⟩
 refine Za (hz _ _ ?_)
 refine wb_ (mo) (fun bY => ?_) fun bY => ?_
 ·have c7 := Zf bY c6
  refine sq_ fun hA => sq_ fun hB => g_' (qs_ 1 ?_)
  have lI := (bG.frS aa dn_)
  refine lr_ 35 1 (.int .u64 am.2.1) lI (qs_ 1 (Za (hB _ _ ?_)))
  refine wc_ (am.2.1 > 2147483647) (fun bZ => ?_) fun bZ => ?_
  ·have kE := Zf bZ c7
   refine sq_ fun hC => g_' ?_
   have lJ := (br.frS aa dn_)
   refine lr_ 30 0 (.agg #[i_ aL.1, .slice aD aF aE]) lJ ?_
   have ic := (t_ (t_ (t_ (t_ Z.n O.n) V.n) J.n) X.n)
   have eK := (an.djn (ah.ltF.le ic))
   have ie := (t_ (t_ (t_ (t_ (t_ (t_ (t_ (t_ (t_ Z.n O.n) V.n) J.n) X.n) ab.n) Y.n) ac.n) ad.n) af.n)
   have eL := (ao.djn (ah.ltF.le ie))
   have lK := (((((((((((((ah.ext Z).frS O dn_).frS V (ap.djn ah.ltF)).frS J dn_).frS X dn_).ext ab).frS Y eK).frS ac dn_).frS ad dn_).frS af dn_).ext ag).frS ae eL).frS aa dn_)
   have lL := ((bt.fr ae (ao.djn aN.lt)).fr aa dn_)
   obtain ⟨d6, j5, cE, kF⟩ := ra_ 30 0 aa.wf lK [i_ aL.1, .slice aD aF aE] [i_ aL.1, .slice aD aF aE]
   refine ek_ j5 (Za (hC _ _ ?_))
   refine Zp (Zk (Zk ?_))
   refine ZX (vs := [.agg #[i_ aL.1, .slice aD aF aE]]) (ZC (Eq.trans (b := aL_ 30 (pt_ aP 0) d6) (by kernel_rfl) (kF.l_)) (rfl)) ?_
   have ig := (t_ aj.n ak.n)
   have ih := (t_ (t_ (t_ (t_ (t_ (t_ aj.n ak.n) Z.n) O.n) V.n) J.n) X.n)
   have ii := (t_ (t_ (t_ (t_ (t_ (t_ (t_ (t_ (t_ (t_ (t_ aj.n ak.n) Z.n) O.n) V.n) J.n) X.n) ab.n) Y.n) ac.n) ad.n) af.n)
   have ij := (t_ (t_ (t_ (t_ (t_ (t_ (t_ (t_ Z.n O.n) V.n) J.n) X.n) ab.n) Y.n) ac.n) ad.n)
   have eM := (a_.djn (ah.ltF.le ij))
   have lM := (lL.fr cE (Dj.symm eM))
   have ik := (t_ (t_ (t_ (t_ (t_ (t_ (t_ (t_ (t_ (t_ aj.n ak.n) Z.n) O.n) V.n) J.n) X.n) ab.n) Y.n) ac.n) ad.n)
   obtain rfl := oi_ kE
   exact ⟨(.slice aD aF aE), bp, rfl, (fs_ z (fs_ z (fs_ z ((fs_ z (fs_ z (fs_ z (fs_ z ((fs_ z (fs_ z (fs_ z (fs_ z ((((f0_ z).extR aj).extR ak).extR Z) O in_) V (ap.fresh ig)) J in_) X in_).extR ab) Y (an.fresh ih)) ac in_) ad in_) af in_).extR ag) ae (ao.fresh ii)) aa in_) cE (aZ.fresh aj.n)), lM, (a_.fresh ik)⟩
  have kG := Zj bZ c7
  refine Zg (hA _ _ (sq_ fun hD => g_' (qs_ 1 ?_)))
  have il := (t_ (t_ (t_ (t_ Z.n O.n) V.n) J.n) X.n)
  have eN := (an.djn (ah.ltF.le il))
  have im := (t_ (t_ (t_ (t_ (t_ (t_ (t_ (t_ (t_ Z.n O.n) V.n) J.n) X.n) ab.n) Y.n) ac.n) ad.n) af.n)
  have eO := (ao.djn (ah.ltF.le im))
  have lN := (((((((((((((ah.ext Z).frS O dn_).frS V (ap.djn ah.ltF)).frS J dn_).frS X dn_).ext ab).frS Y eN).frS ac dn_).frS ad dn_).frS af dn_).ext ag).frS ae eO).frS aa dn_)
  obtain ⟨d7, j6, gT, kH⟩ := ra_ 30 0 aa.wf lN [i_ 0, .slice none 0 0] [i_ 0, .slice none 0 0]
  refine ek_ j6 (Za (hD _ _ ?_))
  refine Zp (Zk ?_)
  refine ZX (vs := [.agg #[i_ 0, .slice none 0 0]]) (ZC (Eq.trans (b := aL_ 30 (pt_ aP 0) d7) (by kernel_rfl) (kH.l_)) (rfl)) ?_
  have io := (t_ aj.n ak.n)
  have ip := (t_ (t_ (t_ (t_ (t_ (t_ aj.n ak.n) Z.n) O.n) V.n) J.n) X.n)
  have iq := (t_ (t_ (t_ (t_ (t_ (t_ (t_ (t_ (t_ (t_ (t_ aj.n ak.n) Z.n) O.n) V.n) J.n) X.n) ab.n) Y.n) ac.n) ad.n) af.n)
  obtain rfl := oi_ kG
  exact ⟨(.slice none 0 0), [], rfl, (fs_ z (fs_ z (fs_ z ((fs_ z (fs_ z (fs_ z (fs_ z ((fs_ z (fs_ z (fs_ z (fs_ z ((((f0_ z).extR aj).extR ak).extR Z) O in_) V (ap.fresh io)) J in_) X in_).extR ab) Y (an.fresh ip)) ac in_) ad in_) af in_).extR ag) ae (ao.fresh iq)) aa in_) gT (aZ.fresh aj.n)), (Ow.nil (by decide)), in_⟩
 have kI := ZL bY c6
 refine Zg (hy _ _ (sq_ fun hE => sq_ fun hF => ?_))
 obtain ⟨c0, hd, c8⟩ := bs_ kI
 refine Zv (fun α cq => Has α [(1, bq), (2, i_ i), (3, pt_ aM 0), (6, pt_ aP 0), (7, pt_ aS 0), (10, pt_ bv 0), (11, pt_ cx 0), (123, .bool c0)] /\ bn = cq) (fun _ bC => ?_) (fun α cq hM => ?_)
 ·refine g_' (qs_ 1 ?_)
  have bH := (bG.frS aa dn_)
  refine lr_ 60 2 (.int .u32 am.2.2.1) bH ?_
  obtain ⟨g4, kJ⟩ := Zb hd
  refine s_w (am.2.2.1) (k := .u64) (x := am.2.2.1) (by kernel_rfl) (Zag g4) ?_
  refine qs_ 1 ?_
  obtain ⟨g5, c9⟩ := Zb kJ
  refine s_w (((aQ.length : Int) + (aV.length : Int))) (k := .u64) (x := ((aQ.length : Int) + (aV.length : Int))) (by kernel_rfl) (Zag g5) ?_
  refine sb_ (am.2.2.1 ≥ ((aQ.length : Int) + (aV.length : Int))) (fun b0 => ?_) fun b0 => ?_
  ·have kK := Zf b0 c9
   refine qs_ 26 (Za ?_)
   obtain rfl := oi_ kK
   exact bC _ _ ⟨ha_, rfl⟩
  have kL := Zj b0 c9
  refine qs_ 2 (lr_ 60 3 (.int .u32 am.2.2.2) bH ?_)
  obtain ⟨g6, kM⟩ := Zb kL
  refine s_w (am.2.2.2) (k := .u64) (x := am.2.2.2) (by kernel_rfl) (Zag g6) ?_
  refine qs_ 1 ?_
  obtain ⟨g7, c_⟩ := Zb kM
  refine s_w (((aQ.length : Int) + (aV.length : Int))) (k := .u64) (x := ((aQ.length : Int) + (aV.length : Int))) (by kernel_rfl) (Zag (by have := g7; omega)) ?_
  refine sb_ (am.2.2.2 ≥ ((aQ.length : Int) + (aV.length : Int))) (fun b1 => ?_) fun b1 => ?_
  ·have kN := Zf b1 c_
   refine qs_ 19 (Za ?_)
   obtain rfl := oi_ kN
   exact bC _ _ ⟨ha_, rfl⟩
  have kO := Zj b1 c_
  refine qs_ 3 (lr_ 60 2 (.int .u32 am.2.2.1) bH ?_)
  obtain ⟨g8, da⟩ := Zb kO
  refine w_' (am.2.2.1) (Zn (by have := g8; omega)) (qs_ 1 ?_)
  have ir := (t_ (t_ (t_ (t_ (t_ ak.n Z.n) O.n) V.n) J.n) X.n)
  have eP := (an.djn (bd.ltF.le ir))
  have it := (t_ (t_ (t_ (t_ (t_ (t_ (t_ (t_ (t_ (t_ ak.n Z.n) O.n) V.n) J.n) X.n) ab.n) Y.n) ac.n) ad.n) af.n)
  have eQ := (ao.djn (bd.ltF.le it))
  have dy := ((((((((((bm.frS J dn_).frS X dn_).ext ab).frS Y eP).frS ac dn_).frS ad dn_).frS af dn_).ext ag).frS ae eQ).frS aa dn_)
  refine lr_ 23 2 (aR) dy ?_
  have iu := (t_ aj.n ak.n)
  have eR := (ap.djn (aT.lt.le iu))
  have iv := (t_ (t_ (t_ (t_ (t_ (t_ aj.n ak.n) Z.n) O.n) V.n) J.n) X.n)
  have eS := (an.djn (aT.lt.le iv))
  have iw := (t_ (t_ (t_ (t_ (t_ (t_ (t_ (t_ (t_ (t_ (t_ aj.n ak.n) Z.n) O.n) V.n) J.n) X.n) ab.n) Y.n) ac.n) ad.n) af.n)
  have eT := (ao.djn (aT.lt.le iw))
  have dz := ((((((((((((bI.fr O dn_).fr V eR).fr J dn_).fr X dn_).ext ab).fr Y eS).fr ac dn_).fr ad dn_).fr af dn_).ext ag).fr ae eT).fr aa dn_)
  refine dz.ln_ 23 ?_
  refine sb_ (am.2.2.1 < (aQ.length : Int)) (fun b2 => ?_) fun b2 => ?_
  ·have kP := Zf b2 da
   refine qs_ 10 (Za ?_)
   obtain rfl := oi_ kP
   exact bC _ _ ⟨ha_, rfl⟩
  have kR := Zj b2 da
  refine qs_ 3 (lr_ 60 3 (.int .u32 am.2.2.2) bH ?_)
  obtain ⟨g9, kS⟩ := Zb kR
  refine w_' (am.2.2.2) (Zn (by have := g9; omega)) (qs_ 1 (lr_ 23 2 (aR) dy (dz.ln_ 23 (qs_ 2 (Za ?_)))))
  obtain rfl := oi_ kS
  exact bC _ _ ⟨ha_, rfl⟩
 obtain ⟨cP, rfl⟩ := hM
 obtain ⟨β, rfl⟩ := Zi cP
 clear cP
 refine hF _ _ ?_
 refine wb_ (c0) (fun b3 => ?_) fun b3 => ?_
 ·have kT := Zf b3 c8
  refine sq_ fun hG => g_' ?_
  have ix := (t_ (t_ (t_ Y.n ac.n) ad.n) af.n)
  have eU := (ao.djn (bl.ltF.le ix))
  have lO := ((((((bE.frS ac dn_).frS ad dn_).frS af dn_).ext ag).frS ae eU).frS aa dn_)
  refine lr_ 30 0 (.agg #[i_ aO.1, .slice aI aK aJ]) lO ?_
  have iy := (t_ (t_ (t_ (t_ Z.n O.n) V.n) J.n) X.n)
  have eV := (an.djn (ah.ltF.le iy))
  have iz := (t_ (t_ (t_ (t_ (t_ (t_ (t_ (t_ (t_ Z.n O.n) V.n) J.n) X.n) ab.n) Y.n) ac.n) ad.n) af.n)
  have eW := (ao.djn (ah.ltF.le iz))
  have lP := (((((((((((((ah.ext Z).frS O dn_).frS V (ap.djn ah.ltF)).frS J dn_).frS X dn_).ext ab).frS Y eV).frS ac dn_).frS ad dn_).frS af dn_).ext ag).frS ae eW).frS aa dn_)
  have iA := (t_ (t_ (t_ (t_ ab.n Y.n) ac.n) ad.n) af.n)
  have eX := (ao.djn (a2.lt.le iA))
  have lQ := (((((((bL.fr Y (an.djn a2.lt)).fr ac dn_).fr ad dn_).fr af dn_).ext ag).fr ae eX).fr aa dn_)
  obtain ⟨d8, j7, cF, kU⟩ := ra_ 30 0 aa.wf lP [i_ aO.1, .slice aI aK aJ] [i_ aO.1, .slice aI aK aJ]
  refine ek_ j7 (Za (hG _ _ ?_))
  refine Zp (Zk ?_)
  refine ZX (vs := [.agg #[i_ aO.1, .slice aI aK aJ]]) (ZC (Eq.trans (b := aL_ 30 (pt_ aP 0) d8) (by kernel_rfl) (kU.l_)) (rfl)) ?_
  have iB := (t_ aj.n ak.n)
  have iC := (t_ (t_ (t_ (t_ (t_ (t_ aj.n ak.n) Z.n) O.n) V.n) J.n) X.n)
  have iD := (t_ (t_ (t_ (t_ (t_ (t_ (t_ (t_ (t_ (t_ (t_ aj.n ak.n) Z.n) O.n) V.n) J.n) X.n) ab.n) Y.n) ac.n) ad.n) af.n)
  have iE := (t_ (t_ (t_ Z.n O.n) V.n) J.n)
  have eY := (bh.djn (ah.ltF.le iE))
  have lR := (lQ.fr cF (Dj.symm eY))
  have iF := (t_ (t_ (t_ (t_ (t_ aj.n ak.n) Z.n) O.n) V.n) J.n)
  obtain rfl := oi_ kT
  exact ⟨(.slice aI aK aJ), bw, rfl, (fs_ z (fs_ z (fs_ z ((fs_ z (fs_ z (fs_ z (fs_ z ((fs_ z (fs_ z (fs_ z (fs_ z ((((f0_ z).extR aj).extR ak).extR Z) O in_) V (ap.fresh iB)) J in_) X in_).extR ab) Y (an.fresh iC)) ac in_) ad in_) af in_).extR ag) ae (ao.fresh iD)) aa in_) cF (aZ.fresh aj.n)), lR, (bh.fresh iF)⟩
 have kV := ZL b3 c8
 refine Zg (hE _ _ (sq_ fun hH => ?_))
 refine ZJ [0, 1, 2, 4, 5, 6, 7, 8, 10, 11, 12, 13, 14, 16, 17, 18, 3, 9, 15, 19, 20, 21] (by kernel_rfl) ?_
 have iG := (t_ (t_ (t_ (t_ (t_ ak.n Z.n) O.n) V.n) J.n) X.n)
 have eZ := (an.djn (bd.ltF.le iG))
 have iH := (t_ (t_ (t_ (t_ (t_ (t_ (t_ (t_ (t_ (t_ ak.n Z.n) O.n) V.n) J.n) X.n) ab.n) Y.n) ac.n) ad.n) af.n)
 have e0 := (ao.djn (bd.ltF.le iH))
 have bJ := ((((((((((bm.frS J dn_).frS X dn_).ext ab).frS Y eZ).frS ac dn_).frS ad dn_).frS af dn_).ext ag).frS ae e0).frS aa dn_)
 refine mr_ 25 0 (.agg #[a1, a9, aR, a8, a0]) bJ (es_ 2 ?_)
 refine ZcR (.agg #[a1, a9, aR, a8, a0]) (x := aL_ 25 (pt_ aM 0) bn) (by kernel_rfl) (bJ.l_) ?_
 refine es_ 2 ?_
 have cj := (bG.frS aa dn_)
 refine ZcR (.int .u32 am.2.2.1) (x := aL_ 60 (pt_ aS 2) bn) (by kernel_rfl) (cj.l_) ?_
 obtain ⟨cM, kW⟩ := Zb kV
 refine d_w (am.2.2.1) (k := .i64) (x := am.2.2.1) (by kernel_rfl) (Zn cM) ?_
 refine ZcR (.agg #[a1, a9, aR, a8, a0]) (x := aL_ 25 (pt_ aM 0) bn) (by kernel_rfl) (bJ.l_) ?_
 refine es_ 2 ?_
 refine ZcR (.int .u32 am.2.2.2) (x := aL_ 60 (pt_ aS 3) bn) (by kernel_rfl) (cj.l_) ?_
 obtain ⟨cN, kX⟩ := Zb kW
 refine d_w (am.2.2.2) (k := .i64) (x := am.2.2.2) (by kernel_rfl) (Zn cN) ?_
 refine Zem aa.wf [i_ 0, i_ 0, i_ 0] (by kernel_rfl) fun mF mu ai aC cd => ?_
 refine Zem ai.wf [i_ 0, i_ 0, i_ 0] (by kernel_rfl) fun mG mv al aB db => ?_
 refine Zem al.wf [i_ 0, i_ 0, i_ 0] (by kernel_rfl) fun mH mw av aA kY => ?_
 have aW := (t_ aj.n ak.n)
 have e1 := (ap.djn (a5.lt.le aW))
 have aX := (t_ (t_ (t_ (t_ (t_ (t_ aj.n ak.n) Z.n) O.n) V.n) J.n) X.n)
 have e2 := (an.djn (a5.lt.le aX))
 have aY := (t_ (t_ (t_ (t_ (t_ (t_ (t_ (t_ (t_ (t_ (t_ aj.n ak.n) Z.n) O.n) V.n) J.n) X.n) ab.n) Y.n) ac.n) ad.n) af.n)
 have e3 := (ao.djn (a5.lt.le aY))
 have dA := (((((((((((((((cf.fr O dn_).fr V e1).fr J dn_).fr X dn_).ext ab).fr Y e2).fr ac dn_).fr ad dn_).fr af dn_).ext ag).fr ae e3).fr aa dn_).ext ai).ext al).ext av)
 have e4 := (ap.djn (a6.lt.le aW))
 have e5 := (an.djn (a6.lt.le aX))
 have e6 := (ao.djn (a6.lt.le aY))
 have dB := (((((((((((((((cg.fr O dn_).fr V e4).fr J dn_).fr X dn_).ext ab).fr Y e5).fr ac dn_).fr ad dn_).fr af dn_).ext ag).fr ae e6).fr aa dn_).ext ai).ext al).ext av)
 have e8 := (ap.djn (aT.lt.le aW))
 have e9 := (an.djn (aT.lt.le aX))
 have e_ := (ao.djn (aT.lt.le aY))
 have dC := (((((((((((((((bI.fr O dn_).fr V e8).fr J dn_).fr X dn_).ext ab).fr Y e9).fr ac dn_).fr ad dn_).fr af dn_).ext ag).fr ae e_).fr aa dn_).ext ai).ext al).ext av)
 have fa := (ap.djn (a4.lt.le aW))
 have fb := (an.djn (a4.lt.le aX))
 have fc := (ao.djn (a4.lt.le aY))
 have dD := (((((((((((((((ch.fr O dn_).fr V fa).fr J dn_).fr X dn_).ext ab).fr Y fb).fr ac dn_).fr ad dn_).fr af dn_).ext ag).fr ae fc).fr aa dn_).ext ai).ext al).ext av)
 have fd := (ap.djn (a3.lt.le aW))
 have fe := (an.djn (a3.lt.le aX))
 have ff := (ao.djn (a3.lt.le aY))
 have dE := (((((((((((((((ci.fr O dn_).fr V fd).fr J dn_).fr X dn_).ext ab).fr Y fe).fr ac dn_).fr ad dn_).fr af dn_).ext ag).fr ae ff).fr aa dn_).ext ai).ext al).ext av)
 have fg := (ap.djn (a7.lt.le aW))
 have fh := (an.djn (a7.lt.le aX))
 have fj := (ao.djn (a7.lt.le aY))
 have dF := ((((((((((((((((((a7.ext aj).ext ak).ext Z).fr O dn_).fr V fg).fr J dn_).fr X dn_).ext ab).fr Y fh).fr ac dn_).fr ad dn_).fr af dn_).ext ag).fr ae fj).fr aa dn_).ext ai).ext al).ext av)
 obtain ⟨be, hl, k0⟩ := bs_ kX
 refine dk_ (Zca av.wf dA dB dC dD dE dF hl) ?_
 rintro _ bu ⟨rfl, aq⟩
 have ck := ((((bJ.ext ai).ext al).ext av).frS aq dn_)
 have cl := ((((cj.ext ai).ext al).ext av).frS aq dn_)
 refine ⟨Zbb (y := aL_ 60 (pt_ aS 3) bu) (by kernel_rfl) (cl.l_) (Zbb (y := aL_ 25 (pt_ aM 0) bu) (by kernel_rfl) (ck.l_) (Zbb (y := aL_ 60 (pt_ aS 2) bu) (by kernel_rfl) (cl.l_) (Zbb (y := aL_ 25 (pt_ aM 0) bu) (by kernel_rfl) (ck.l_) (ZP)))), ?_⟩
 have dG := (dA.fr aq dn_)
 have dH := (dB.fr aq dn_)
 have dI := (dC.fr aq dn_)
 have dJ := (dD.fr aq dn_)
 have dK := (dE.fr aq dn_)
 have dL := (dF.fr aq dn_)
 obtain ⟨bf, hm, k1⟩ := bs_ k0
 refine dk_ (Zca aq.wf dG dH dI dJ dK dL hm) ?_
 rintro _ cr ⟨rfl, au⟩
 have dM := (ck.frS au dn_)
 have dN := (cl.frS au dn_)
 refine ⟨Zbb (y := aL_ 60 (pt_ aS 3) cr) (by kernel_rfl) (dN.l_) (Zbb (y := aL_ 25 (pt_ aM 0) cr) (by kernel_rfl) (dM.l_) (Z0 (by kernel_rfl) (Z0 (by kernel_rfl) (ZP)))), ?_⟩
 have dO := (dG.fr au dn_)
 have dP := (dH.fr au dn_)
 have dQ := (dI.fr au dn_)
 have dR := (dJ.fr au dn_)
 have dS := (dK.fr au dn_)
 have lS := (dL.fr au dn_)
 obtain ⟨bg, hn, k2⟩ := bs_ k1
 refine dk_ (Zca au.wf dO dP dQ dR dS lS hn) ?_
 rintro _ mx ⟨rfl, aw⟩
 refine ⟨Z0 (by kernel_rfl) (Z0 (by kernel_rfl) (Z0 (by kernel_rfl) (Z0 (by kernel_rfl) (ZP)))), ?_⟩
 have lT := (((((cd.ext al).ext av).frS aq dn_).frS au dn_).frS aw dn_)
 obtain ⟨my, j9, ay, k3⟩ := ra_ 127 0 aw.wf lT [i_ be.1, i_ be.2.1, i_ be.2.2] [i_ be.1, i_ be.2.1, i_ be.2.2]
 refine fk_ j9 (Z0 (by kernel_rfl) (Z0 (by kernel_rfl) (Z0 (by kernel_rfl) (Z0 (by kernel_rfl) (ZP))))) ?_
 have cy := (aB.djn cd.ltF)
 have lU := (((((db.ext av).frS aq dn_).frS au dn_).frS aw dn_).frS ay (Dj.symm cy))
 obtain ⟨mz, j_, az, k4⟩ := ra_ 127 0 ay.wf lU [i_ bf.1, i_ bf.2.1, i_ bf.2.2] [i_ bf.1, i_ bf.2.1, i_ bf.2.2]
 refine fk_ j_ (Z0 (by kernel_rfl) (Z0 (by kernel_rfl) (Z0 (by kernel_rfl) (Z0 (by kernel_rfl) (ZP))))) ?_
 have cz := (aA.djn (cd.ltF.le al.n))
 have cA := (aA.djn db.ltF)
 have lV := (((((kY.frS aq dn_).frS au dn_).frS aw dn_).frS ay (Dj.symm cz)).frS az (Dj.symm cA))
 obtain ⟨bR, ka, ax, dc⟩ := ra_ 127 0 az.wf lV [i_ bg.1, i_ bg.2.1, i_ bg.2.2] [i_ bg.1, i_ bg.2.1, i_ bg.2.2]
 refine fk_ ka (Z0 (by kernel_rfl) (Z0 (by kernel_rfl) (Z0 (by kernel_rfl) (Z0 (by kernel_rfl) (ZP))))) ?_
 refine ZE ?_
 refine hH _ _ (sq_ fun hI => sq_ fun hJ => ?_)
 obtain ⟨c1, cU, dd⟩ := bs_ k2
 refine Zv (fun α ct => Has α [(3, pt_ aM 0), (6, pt_ aP 0), (7, pt_ aS 0), (10, pt_ bv 0), (11, pt_ cx 0), (159, .bool c1)] /\ bR = ct) (fun _ cb => ?_) (fun α ct hM => ?_)
 ·refine g_' (qs_ 1 ?_)
  have dT := (k4.frS ax cA)
  refine lr_ 3 0 (i_ bf.1) dT (qs_ 1 ?_)
  have dU := ((k3.frS az cy).frS ax cz)
  refine lr_ 3 0 (i_ be.1) dU ?_
  refine Zgt (bf.1 = be.1) (by kernel_rfl) (fun b4 => ?_) (fun b4 => ?_)
  ·have de := Zf b4 cU
   refine qs_ 2 (lr_ 3 1 (i_ bg.2.1) dc (qs_ 1 (lr_ 3 1 (i_ be.2.1) dU ?_)))
   refine Zgt (bg.2.1 = be.2.1) (by kernel_rfl) (fun b5 => ?_) (fun b5 => ?_)
   ·have k5 := Zf b5 de
    refine qs_ 3 (lr_ 3 2 (i_ bf.2.2) dT (qs_ 1 (lr_ 3 2 (i_ bg.2.2) dc (qs_ 2 (Za ?_)))))
    obtain rfl := oi_ k5
    exact cb _ _ ⟨ha_, rfl⟩
   have k6 := Zj b5 de
   refine qs_ 8 (Za ?_)
   obtain rfl := oi_ k6
   exact cb _ _ ⟨ha_, rfl⟩
  have k7 := Zj b4 cU
  refine qs_ 14 (Za ?_)
  obtain rfl := oi_ k7
  exact cb _ _ ⟨ha_, rfl⟩
 obtain ⟨cQ, rfl⟩ := hM
 obtain ⟨β, rfl⟩ := Zi cQ
 clear cQ
 refine hJ _ _ ?_
 refine wb_ (c1) (fun b6 => ?_) fun b6 => ?_
 ·have k8 := Zf b6 dd
  refine sq_ fun hK => g_' ?_
  have iI := (t_ (t_ (t_ Y.n ac.n) ad.n) af.n)
  have fm := (ao.djn (bl.ltF.le iI))
  have iJ := (t_ (t_ (t_ (t_ (t_ (t_ Y.n ac.n) ad.n) af.n) ag.n) ae.n) aa.n)
  have fo := (aC.djn (bl.ltF.le iJ))
  have iK := (t_ (t_ (t_ (t_ (t_ (t_ (t_ Y.n ac.n) ad.n) af.n) ag.n) ae.n) aa.n) ai.n)
  have fs := (aB.djn (bl.ltF.le iK))
  have iL := (t_ (t_ (t_ (t_ (t_ (t_ (t_ (t_ Y.n ac.n) ad.n) af.n) ag.n) ae.n) aa.n) ai.n) al.n)
  have ft := (aA.djn (bl.ltF.le iL))
  have lX := (((((((((((((((bE.frS ac dn_).frS ad dn_).frS af dn_).ext ag).frS ae fm).frS aa dn_).ext ai).ext al).ext av).frS aq dn_).frS au dn_).frS aw dn_).frS ay fo).frS az fs).frS ax ft)
  refine lr_ 30 0 (.agg #[i_ aO.1, .slice aI aK aJ]) lX ?_
  have iM := (t_ (t_ (t_ (t_ Z.n O.n) V.n) J.n) X.n)
  have fu := (an.djn (ah.ltF.le iM))
  have iN := (t_ (t_ (t_ (t_ (t_ (t_ (t_ (t_ (t_ Z.n O.n) V.n) J.n) X.n) ab.n) Y.n) ac.n) ad.n) af.n)
  have fv := (ao.djn (ah.ltF.le iN))
  have iO := (t_ (t_ (t_ (t_ (t_ (t_ (t_ (t_ (t_ (t_ (t_ (t_ Z.n O.n) V.n) J.n) X.n) ab.n) Y.n) ac.n) ad.n) af.n) ag.n) ae.n) aa.n)
  have fw := (aC.djn (ah.ltF.le iO))
  have iP := (t_ (t_ (t_ (t_ (t_ (t_ (t_ (t_ (t_ (t_ (t_ (t_ (t_ Z.n O.n) V.n) J.n) X.n) ab.n) Y.n) ac.n) ad.n) af.n) ag.n) ae.n) aa.n) ai.n)
  have fx := (aB.djn (ah.ltF.le iP))
  have iQ := (t_ (t_ (t_ (t_ (t_ (t_ (t_ (t_ (t_ (t_ (t_ (t_ (t_ (t_ Z.n O.n) V.n) J.n) X.n) ab.n) Y.n) ac.n) ad.n) af.n) ag.n) ae.n) aa.n) ai.n) al.n)
  have fy := (aA.djn (ah.ltF.le iQ))
  have lY := ((((((((((((((((((((((ah.ext Z).frS O dn_).frS V (ap.djn ah.ltF)).frS J dn_).frS X dn_).ext ab).frS Y fu).frS ac dn_).frS ad dn_).frS af dn_).ext ag).frS ae fv).frS aa dn_).ext ai).ext al).ext av).frS aq dn_).frS au dn_).frS aw dn_).frS ay fw).frS az fx).frS ax fy)
  have iR := (t_ (t_ (t_ (t_ ab.n Y.n) ac.n) ad.n) af.n)
  have fz := (ao.djn (a2.lt.le iR))
  have iS := (t_ (t_ (t_ (t_ (t_ (t_ (t_ ab.n Y.n) ac.n) ad.n) af.n) ag.n) ae.n) aa.n)
  have fA := (aC.djn (a2.lt.le iS))
  have iT := (t_ (t_ (t_ (t_ (t_ (t_ (t_ (t_ ab.n Y.n) ac.n) ad.n) af.n) ag.n) ae.n) aa.n) ai.n)
  have fB := (aB.djn (a2.lt.le iT))
  have iU := (t_ (t_ (t_ (t_ (t_ (t_ (t_ (t_ (t_ ab.n Y.n) ac.n) ad.n) af.n) ag.n) ae.n) aa.n) ai.n) al.n)
  have fC := (aA.djn (a2.lt.le iU))
  have lZ := ((((((((((((((((bL.fr Y (an.djn a2.lt)).fr ac dn_).fr ad dn_).fr af dn_).ext ag).fr ae fz).fr aa dn_).ext ai).ext al).ext av).fr aq dn_).fr au dn_).fr aw dn_).fr ay fA).fr az fB).fr ax fC)
  obtain ⟨d9, kb, cG, k9⟩ := ra_ 30 0 ax.wf lY [i_ aO.1, .slice aI aK aJ] [i_ aO.1, .slice aI aK aJ]
  refine ek_ kb (Za (hK _ _ ?_))
  refine Zp (Zk ?_)
  refine ZX (vs := [.agg #[i_ aO.1, .slice aI aK aJ]]) (ZC (Eq.trans (b := aL_ 30 (pt_ aP 0) d9) (by kernel_rfl) (k9.l_)) (rfl)) ?_
  have ee := ((fs_ z (fs_ z (fs_ z (fs_ z ((((f0_ z).extR aj).extR ak).extR Z) O in_) V (ap.fresh aW)) J in_) X in_).extR ab)
  have iV := (t_ (t_ (t_ (t_ (t_ (t_ (t_ (t_ (t_ (t_ (t_ (t_ (t_ (t_ aj.n ak.n) Z.n) O.n) V.n) J.n) X.n) ab.n) Y.n) ac.n) ad.n) af.n) ag.n) ae.n) aa.n)
  have cW := (t_ (t_ (t_ (t_ (t_ (t_ (t_ aj.n ak.n) Z.n) O.n) V.n) J.n) X.n) ab.n)
  have cX := (t_ (t_ (t_ (t_ (t_ (t_ (t_ Y.n ac.n) ad.n) af.n) ag.n) ae.n) aa.n) ai.n)
  have iW := (t_ cW cX)
  have iX := (t_ (t_ cW cX) al.n)
  have iY := (t_ (t_ (t_ Z.n O.n) V.n) J.n)
  have fD := (bh.djn (ah.ltF.le iY))
  have l0 := (lZ.fr cG (Dj.symm fD))
  have iZ := (t_ (t_ (t_ (t_ (t_ aj.n ak.n) Z.n) O.n) V.n) J.n)
  obtain rfl := oi_ k8
  exact ⟨(.slice aI aK aJ), bw, rfl, (fs_ z (fs_ z (fs_ z (fs_ z (fs_ z (fs_ z (fs_ z ((((fs_ z (fs_ z ((fs_ z (fs_ z (fs_ z (fs_ z (fs_ z (f0_ z) ee in_) Y (an.fresh aX)) ac in_) ad in_) af in_).extR ag) ae (ao.fresh aY)) aa in_).extR ai).extR al).extR av) aq in_) au in_) aw in_) ay (aC.fresh iV)) az (aB.fresh iW)) ax (aA.fresh iX)) cG (aZ.fresh aj.n)), l0, (bh.fresh iZ)⟩
 have k_ := ZL b6 dd
 refine Zg (hI _ _ (sq_ fun hN => ?_))
 refine ZJ [0, 1, 2, 3, 6, 7, 8, 9, 4, 5, 10, 11, 12, 13] (by kernel_rfl) ?_
 have i0 := (t_ (t_ (t_ (t_ (t_ (t_ (t_ (t_ (t_ (t_ (t_ (t_ (t_ ak.n Z.n) O.n) V.n) J.n) X.n) ab.n) Y.n) ac.n) ad.n) af.n) ag.n) ae.n) aa.n)
 have fE := (aC.djn (bd.ltF.le i0))
 have i1 := (t_ (t_ (t_ (t_ (t_ (t_ (t_ (t_ (t_ (t_ (t_ (t_ (t_ (t_ ak.n Z.n) O.n) V.n) J.n) X.n) ab.n) Y.n) ac.n) ad.n) af.n) ag.n) ae.n) aa.n) ai.n)
 have fF := (aB.djn (bd.ltF.le i1))
 have cc := (t_ (t_ (t_ (t_ (t_ (t_ (t_ Y.n ac.n) ad.n) af.n) ag.n) ae.n) aa.n) ai.n)
 have i2 := (t_ (t_ (t_ (t_ (t_ (t_ (t_ (t_ ak.n Z.n) O.n) V.n) J.n) X.n) ab.n) cc) al.n)
 have fG := (aA.djn (bd.ltF.le i2))
 have cm := ((((dM.frS aw dn_).frS ay fE).frS az fF).frS ax fG)
 refine mr_ 25 0 (.agg #[a1, a9, aR, a8, a0]) cm (es_ 1 ?_)
 have i3 := (t_ (t_ (t_ (t_ (t_ (t_ (t_ (t_ (t_ (t_ (t_ O.n V.n) J.n) X.n) ab.n) Y.n) ac.n) ad.n) af.n) ag.n) ae.n) aa.n)
 have fH := (aC.djn (bi.ltF.le i3))
 have i4 := (t_ (t_ (t_ (t_ (t_ (t_ (t_ (t_ (t_ (t_ (t_ (t_ O.n V.n) J.n) X.n) ab.n) Y.n) ac.n) ad.n) af.n) ag.n) ae.n) aa.n) ai.n)
 have fI := (aB.djn (bi.ltF.le i4))
 have i5 := (t_ (t_ (t_ (t_ (t_ (t_ (t_ (t_ (t_ (t_ (t_ (t_ (t_ O.n V.n) J.n) X.n) ab.n) Y.n) ac.n) ad.n) af.n) ag.n) ae.n) aa.n) ai.n) al.n)
 have fJ := (aA.djn (bi.ltF.le i5))
 have cn := ((((dN.frS aw dn_).frS ay fH).frS az fI).frS ax fJ)
 refine mr_ 60 2 (.int .u32 am.2.2.1) cn ?_
 refine d_w (am.2.2.1) (k := .i64) (x := am.2.2.1) (by kernel_rfl) (Zn cM) ?_
 refine ZcR (.agg #[a1, a9, aR, a8, a0]) (x := aL_ 25 (pt_ aM 0) bR) (by kernel_rfl) (cm.l_) ?_
 refine es_ 1 ?_
 refine ZcR (.int .u32 am.2.2.2) (x := aL_ 60 (pt_ aS 3) bR) (by kernel_rfl) (cn.l_) ?_
 refine d_w (am.2.2.2) (k := .i64) (x := am.2.2.2) (by kernel_rfl) (Zn cN) ?_
 have ba := (t_ (t_ (t_ (t_ (t_ (t_ (t_ (t_ (t_ (t_ (t_ (t_ (t_ (t_ aj.n ak.n) Z.n) O.n) V.n) J.n) X.n) ab.n) Y.n) ac.n) ad.n) af.n) ag.n) ae.n) aa.n)
 have fK := (aC.djn (a5.lt.le ba))
 have cY := (t_ (t_ (t_ (t_ (t_ (t_ (t_ aj.n ak.n) Z.n) O.n) V.n) J.n) X.n) ab.n)
 have bb := (t_ cY cc)
 have fL := (aB.djn (a5.lt.le bb))
 have bc := (t_ (t_ cY cc) al.n)
 have fM := (aA.djn (a5.lt.le bc))
 have dV := ((((dO.fr aw dn_).fr ay fK).fr az fL).fr ax fM)
 have fN := (aC.djn (a6.lt.le ba))
 have fO := (aB.djn (a6.lt.le bb))
 have fP := (aA.djn (a6.lt.le bc))
 have dW := ((((dP.fr aw dn_).fr ay fN).fr az fO).fr ax fP)
 have fQ := (aC.djn (aT.lt.le ba))
 have fR := (aB.djn (aT.lt.le bb))
 have fS := (aA.djn (aT.lt.le bc))
 have dX := ((((dQ.fr aw dn_).fr ay fQ).fr az fR).fr ax fS)
 have fT := (aC.djn (a4.lt.le ba))
 have fU := (aB.djn (a4.lt.le bb))
 have fV := (aA.djn (a4.lt.le bc))
 have dY := ((((dR.fr aw dn_).fr ay fT).fr az fU).fr ax fV)
 have fW := (aC.djn (a3.lt.le ba))
 have fX := (aB.djn (a3.lt.le bb))
 have fY := (aA.djn (a3.lt.le bc))
 have dZ := ((((dS.fr aw dn_).fr ay fW).fr az fX).fr ax fY)
 obtain ⟨bM, hp, lb⟩ := bs_ k_
 refine dk_ (ZaX ax.wf dV dW dX dY dZ hp) ?_
 rintro _ cu ⟨rfl, aG⟩
 have l1 := (cm.frS aG dn_)
 have d0 := (cn.frS aG dn_)
 refine ⟨Zbb (y := aL_ 60 (pt_ aS 3) cu) (by kernel_rfl) (d0.l_) (Zbb (y := aL_ 25 (pt_ aM 0) cu) (by kernel_rfl) (l1.l_) (ZP)), ?_⟩
 refine es_ 1 ?_
 have l2 := (dV.fr aG dn_)
 have l3 := (dW.fr aG dn_)
 have l4 := (dX.fr aG dn_)
 have l5 := (dY.fr aG dn_)
 have l6 := (dZ.fr aG dn_)
 obtain ⟨bN, hr, df⟩ := bs_ lb
 refine dk_ (ZaX aG.wf l2 l3 l4 l5 l6 hr) ?_
 rintro _ mB ⟨rfl, aH⟩
 refine ⟨Z0 (by kernel_rfl) (Z0 (by kernel_rfl) (ZP)), ?_⟩
 refine es_ 3 ?_
 refine ZE ?_
 refine hN _ _ (sq_ fun hO => sq_ fun bD => g_' (qs_ 1 ?_))
 have d1 := (d0.frS aH dn_)
 refine lr_ 35 1 (.int .u64 am.2.1) d1 ?_
 refine sb_ (am.2.1 > 140737488355328) (fun b7 => ?_) fun b7 => ?_
 ·have lf := Zf b7 df
  refine qs_ 16 (Za (bD _ _ ?_))
  refine wb_ true (fun _ => ?_) fun h => by cases h
  refine sq_ fun hP => g_' ?_
  have i6 := (t_ ae.n aa.n)
  have fZ := (aC.djn (aU.ltF.le i6))
  have i7 := (t_ (t_ ae.n aa.n) ai.n)
  have f0 := (aB.djn (aU.ltF.le i7))
  have i8 := (t_ (t_ (t_ ae.n aa.n) ai.n) al.n)
  have f1 := (aA.djn (aU.ltF.le i8))
  have l7 := ((((((((((((br.frS aa dn_).ext ai).ext al).ext av).frS aq dn_).frS au dn_).frS aw dn_).frS ay fZ).frS az f0).frS ax f1).frS aG dn_).frS aH dn_)
  refine lr_ 30 0 (.agg #[i_ aL.1, .slice aD aF aE]) l7 ?_
  have i9 := (t_ (t_ (t_ (t_ Z.n O.n) V.n) J.n) X.n)
  have f2 := (an.djn (ah.ltF.le i9))
  have ja := (t_ (t_ (t_ (t_ (t_ (t_ (t_ (t_ (t_ Z.n O.n) V.n) J.n) X.n) ab.n) Y.n) ac.n) ad.n) af.n)
  have f3 := (ao.djn (ah.ltF.le ja))
  have jb := (t_ (t_ (t_ (t_ (t_ (t_ (t_ (t_ (t_ (t_ (t_ (t_ Z.n O.n) V.n) J.n) X.n) ab.n) Y.n) ac.n) ad.n) af.n) ag.n) ae.n) aa.n)
  have f4 := (aC.djn (ah.ltF.le jb))
  have jc := (t_ (t_ (t_ (t_ (t_ (t_ (t_ (t_ (t_ (t_ (t_ (t_ (t_ Z.n O.n) V.n) J.n) X.n) ab.n) Y.n) ac.n) ad.n) af.n) ag.n) ae.n) aa.n) ai.n)
  have f5 := (aB.djn (ah.ltF.le jc))
  have jd := (t_ (t_ (t_ (t_ (t_ (t_ (t_ (t_ (t_ (t_ (t_ (t_ (t_ (t_ Z.n O.n) V.n) J.n) X.n) ab.n) Y.n) ac.n) ad.n) af.n) ag.n) ae.n) aa.n) ai.n) al.n)
  have f6 := (aA.djn (ah.ltF.le jd))
  have l8 := ((((((((((((((((((((((((ah.ext Z).frS O dn_).frS V (ap.djn ah.ltF)).frS J dn_).frS X dn_).ext ab).frS Y f2).frS ac dn_).frS ad dn_).frS af dn_).ext ag).frS ae f3).frS aa dn_).ext ai).ext al).ext av).frS aq dn_).frS au dn_).frS aw dn_).frS ay f4).frS az f5).frS ax f6).frS aG dn_).frS aH dn_)
  have je := (t_ (t_ ag.n ae.n) aa.n)
  have f7 := (aC.djn (aN.lt.le je))
  have jf := (t_ (t_ (t_ ag.n ae.n) aa.n) ai.n)
  have f8 := (aB.djn (aN.lt.le jf))
  have jg := (t_ (t_ (t_ (t_ ag.n ae.n) aa.n) ai.n) al.n)
  have f9 := (aA.djn (aN.lt.le jg))
  have l9 := (((((((((((((bt.fr ae (ao.djn aN.lt)).fr aa dn_).ext ai).ext al).ext av).fr aq dn_).fr au dn_).fr aw dn_).fr ay f7).fr az f8).fr ax f9).fr aG dn_).fr aH dn_)
  obtain ⟨d_, kc, cH, lg⟩ := ra_ 30 0 aH.wf l8 [i_ aL.1, .slice aD aF aE] [i_ aL.1, .slice aD aF aE]
  refine ek_ kc (Za (hP _ _ ?_))
  refine Zp (Zk ?_)
  refine ZX (vs := [.agg #[i_ aL.1, .slice aD aF aE]]) (ZC (Eq.trans (b := aL_ 30 (pt_ aP 0) d_) (by kernel_rfl) (lg.l_)) (rfl)) ?_
  have ef := ((fs_ z (fs_ z (fs_ z (fs_ z ((((f0_ z).extR aj).extR ak).extR Z) O in_) V (ap.fresh aW)) J in_) X in_).extR ab)
  have jh := (t_ (t_ (t_ (t_ (t_ (t_ (t_ (t_ Z.n O.n) V.n) J.n) X.n) ab.n) Y.n) ac.n) ad.n)
  have f_ := (a_.djn (ah.ltF.le jh))
  have ma := (l9.fr cH (Dj.symm f_))
  have ji := (t_ (t_ (t_ (t_ (t_ (t_ (t_ (t_ (t_ (t_ aj.n ak.n) Z.n) O.n) V.n) J.n) X.n) ab.n) Y.n) ac.n) ad.n)
  obtain rfl := oi_ lf
  exact ⟨(.slice aD aF aE), bp, rfl, (fs_ z (fs_ z (fs_ z (fs_ z (fs_ z (fs_ z (fs_ z (fs_ z (fs_ z ((((fs_ z (fs_ z ((fs_ z (fs_ z (fs_ z (fs_ z (fs_ z (f0_ z) ef in_) Y (an.fresh aX)) ac in_) ad in_) af in_).extR ag) ae (ao.fresh aY)) aa in_).extR ai).extR al).extR av) aq in_) au in_) aw in_) ay (aC.fresh ba)) az (aB.fresh bb)) ax (aA.fresh bc)) aG in_) aH in_) cH (aZ.fresh aj.n)), ma, (a_.fresh ji)⟩
 have dg := Zj b7 df
 refine qs_ 2 ?_
 refine sb_ (bM.2.1 > 140737488355328) (fun b8 => ?_) fun b8 => ?_
 ·have lh := Zf b8 dg
  refine qs_ 13 (Za (bD _ _ ?_))
  refine wb_ true (fun _ => ?_) fun h => by cases h
  refine sq_ fun hR => g_' ?_
  have jj := (t_ ae.n aa.n)
  have gb := (aC.djn (aU.ltF.le jj))
  have jk := (t_ (t_ ae.n aa.n) ai.n)
  have gc := (aB.djn (aU.ltF.le jk))
  have jl := (t_ (t_ (t_ ae.n aa.n) ai.n) al.n)
  have gd := (aA.djn (aU.ltF.le jl))
  have mb := ((((((((((((br.frS aa dn_).ext ai).ext al).ext av).frS aq dn_).frS au dn_).frS aw dn_).frS ay gb).frS az gc).frS ax gd).frS aG dn_).frS aH dn_)
  refine lr_ 30 0 (.agg #[i_ aL.1, .slice aD aF aE]) mb ?_
  have jm := (t_ (t_ (t_ (t_ Z.n O.n) V.n) J.n) X.n)
  have gf := (an.djn (ah.ltF.le jm))
  have jn := (t_ (t_ (t_ (t_ (t_ (t_ (t_ (t_ (t_ Z.n O.n) V.n) J.n) X.n) ab.n) Y.n) ac.n) ad.n) af.n)
  have gg := (ao.djn (ah.ltF.le jn))
  have jo := (t_ (t_ (t_ (t_ (t_ (t_ (t_ (t_ (t_ (t_ (t_ (t_ Z.n O.n) V.n) J.n) X.n) ab.n) Y.n) ac.n) ad.n) af.n) ag.n) ae.n) aa.n)
  have gh := (aC.djn (ah.ltF.le jo))
  have jp := (t_ (t_ (t_ (t_ (t_ (t_ (t_ (t_ (t_ (t_ (t_ (t_ (t_ Z.n O.n) V.n) J.n) X.n) ab.n) Y.n) ac.n) ad.n) af.n) ag.n) ae.n) aa.n) ai.n)
  have gi := (aB.djn (ah.ltF.le jp))
  have jq := (t_ (t_ (t_ (t_ (t_ (t_ (t_ (t_ (t_ (t_ (t_ (t_ (t_ (t_ Z.n O.n) V.n) J.n) X.n) ab.n) Y.n) ac.n) ad.n) af.n) ag.n) ae.n) aa.n) ai.n) al.n)
  have gj := (aA.djn (ah.ltF.le jq))
  have mc := ((((((((((((((((((((((((ah.ext Z).frS O dn_).frS V (ap.djn ah.ltF)).frS J dn_).frS X dn_).ext ab).frS Y gf).frS ac dn_).frS ad dn_).frS af dn_).ext ag).frS ae gg).frS aa dn_).ext ai).ext al).ext av).frS aq dn_).frS au dn_).frS aw dn_).frS ay gh).frS az gi).frS ax gj).frS aG dn_).frS aH dn_)
  have jr := (t_ (t_ ag.n ae.n) aa.n)
  have gk := (aC.djn (aN.lt.le jr))
  have js := (t_ (t_ (t_ ag.n ae.n) aa.n) ai.n)
  have gl := (aB.djn (aN.lt.le js))
  have jt := (t_ (t_ (t_ (t_ ag.n ae.n) aa.n) ai.n) al.n)
  have gm := (aA.djn (aN.lt.le jt))
  have md := (((((((((((((bt.fr ae (ao.djn aN.lt)).fr aa dn_).ext ai).ext al).ext av).fr aq dn_).fr au dn_).fr aw dn_).fr ay gk).fr az gl).fr ax gm).fr aG dn_).fr aH dn_)
  obtain ⟨ea, kd, cI, li⟩ := ra_ 30 0 aH.wf mc [i_ aL.1, .slice aD aF aE] [i_ aL.1, .slice aD aF aE]
  refine ek_ kd (Za (hR _ _ ?_))
  refine Zp (Zk ?_)
  refine ZX (vs := [.agg #[i_ aL.1, .slice aD aF aE]]) (ZC (Eq.trans (b := aL_ 30 (pt_ aP 0) ea) (by kernel_rfl) (li.l_)) (rfl)) ?_
  have eg := ((fs_ z (fs_ z (fs_ z (fs_ z ((((f0_ z).extR aj).extR ak).extR Z) O in_) V (ap.fresh aW)) J in_) X in_).extR ab)
  have ju := (t_ (t_ (t_ (t_ (t_ (t_ (t_ (t_ Z.n O.n) V.n) J.n) X.n) ab.n) Y.n) ac.n) ad.n)
  have gn := (a_.djn (ah.ltF.le ju))
  have me := (md.fr cI (Dj.symm gn))
  have jv := (t_ (t_ (t_ (t_ (t_ (t_ (t_ (t_ (t_ (t_ aj.n ak.n) Z.n) O.n) V.n) J.n) X.n) ab.n) Y.n) ac.n) ad.n)
  obtain rfl := oi_ lh
  exact ⟨(.slice aD aF aE), bp, rfl, (fs_ z (fs_ z (fs_ z (fs_ z (fs_ z (fs_ z (fs_ z (fs_ z (fs_ z ((((fs_ z (fs_ z ((fs_ z (fs_ z (fs_ z (fs_ z (fs_ z (f0_ z) eg in_) Y (an.fresh aX)) ac in_) ad in_) af in_).extR ag) ae (ao.fresh aY)) aa in_).extR ai).extR al).extR av) aq in_) au in_) aw in_) ay (aC.fresh ba)) az (aB.fresh bb)) ax (aA.fresh bc)) aG in_) aH in_) cI (aZ.fresh aj.n)), me, (a_.fresh jv)⟩
 have dh := Zj b8 dg
 refine qs_ 3 ?_
 refine sb_ (bN.2.1 > 140737488355328) (fun b9 => ?_) fun b9 => ?_
 ·have lj := Zf b9 dh
  refine qs_ 9 (Za (bD _ _ ?_))
  refine wb_ true (fun _ => ?_) fun h => by cases h
  refine sq_ fun hS => g_' ?_
  have jw := (t_ ae.n aa.n)
  have go := (aC.djn (aU.ltF.le jw))
  have jx := (t_ (t_ ae.n aa.n) ai.n)
  have gp := (aB.djn (aU.ltF.le jx))
  have jy := (t_ (t_ (t_ ae.n aa.n) ai.n) al.n)
  have gq := (aA.djn (aU.ltF.le jy))
  have mf := ((((((((((((br.frS aa dn_).ext ai).ext al).ext av).frS aq dn_).frS au dn_).frS aw dn_).frS ay go).frS az gp).frS ax gq).frS aG dn_).frS aH dn_)
  refine lr_ 30 0 (.agg #[i_ aL.1, .slice aD aF aE]) mf ?_
  have jz := (t_ (t_ (t_ (t_ Z.n O.n) V.n) J.n) X.n)
  have gr := (an.djn (ah.ltF.le jz))
  have jA := (t_ (t_ (t_ (t_ (t_ (t_ (t_ (t_ (t_ Z.n O.n) V.n) J.n) X.n) ab.n) Y.n) ac.n) ad.n) af.n)
  have gs := (ao.djn (ah.ltF.le jA))
  have jB := (t_ (t_ (t_ (t_ (t_ (t_ (t_ (t_ (t_ (t_ (t_ (t_ Z.n O.n) V.n) J.n) X.n) ab.n) Y.n) ac.n) ad.n) af.n) ag.n) ae.n) aa.n)
  have gu := (aC.djn (ah.ltF.le jB))
  have jC := (t_ (t_ (t_ (t_ (t_ (t_ (t_ (t_ (t_ (t_ (t_ (t_ (t_ Z.n O.n) V.n) J.n) X.n) ab.n) Y.n) ac.n) ad.n) af.n) ag.n) ae.n) aa.n) ai.n)
  have gv := (aB.djn (ah.ltF.le jC))
  have jD := (t_ (t_ (t_ (t_ (t_ (t_ (t_ (t_ (t_ (t_ (t_ (t_ (t_ (t_ Z.n O.n) V.n) J.n) X.n) ab.n) Y.n) ac.n) ad.n) af.n) ag.n) ae.n) aa.n) ai.n) al.n)
  have gw := (aA.djn (ah.ltF.le jD))
  have mg := ((((((((((((((((((((((((ah.ext Z).frS O dn_).frS V (ap.djn ah.ltF)).frS J dn_).frS X dn_).ext ab).frS Y gr).frS ac dn_).frS ad dn_).frS af dn_).ext ag).frS ae gs).frS aa dn_).ext ai).ext al).ext av).frS aq dn_).frS au dn_).frS aw dn_).frS ay gu).frS az gv).frS ax gw).frS aG dn_).frS aH dn_)
  have jE := (t_ (t_ ag.n ae.n) aa.n)
  have gx := (aC.djn (aN.lt.le jE))
  have jF := (t_ (t_ (t_ ag.n ae.n) aa.n) ai.n)
  have gy := (aB.djn (aN.lt.le jF))
  have jG := (t_ (t_ (t_ (t_ ag.n ae.n) aa.n) ai.n) al.n)
  have gz := (aA.djn (aN.lt.le jG))
  have mh := (((((((((((((bt.fr ae (ao.djn aN.lt)).fr aa dn_).ext ai).ext al).ext av).fr aq dn_).fr au dn_).fr aw dn_).fr ay gx).fr az gy).fr ax gz).fr aG dn_).fr aH dn_)
  obtain ⟨eb, ke, cJ, ll⟩ := ra_ 30 0 aH.wf mg [i_ aL.1, .slice aD aF aE] [i_ aL.1, .slice aD aF aE]
  refine ek_ ke (Za (hS _ _ ?_))
  refine Zp (Zk ?_)
  refine ZX (vs := [.agg #[i_ aL.1, .slice aD aF aE]]) (ZC (Eq.trans (b := aL_ 30 (pt_ aP 0) eb) (by kernel_rfl) (ll.l_)) (rfl)) ?_
  have eh := ((fs_ z (fs_ z (fs_ z (fs_ z ((((f0_ z).extR aj).extR ak).extR Z) O in_) V (ap.fresh aW)) J in_) X in_).extR ab)
  have jH := (t_ (t_ (t_ (t_ (t_ (t_ (t_ (t_ Z.n O.n) V.n) J.n) X.n) ab.n) Y.n) ac.n) ad.n)
  have gA := (a_.djn (ah.ltF.le jH))
  have mi := (mh.fr cJ (Dj.symm gA))
  have jI := (t_ (t_ (t_ (t_ (t_ (t_ (t_ (t_ (t_ (t_ aj.n ak.n) Z.n) O.n) V.n) J.n) X.n) ab.n) Y.n) ac.n) ad.n)
  obtain rfl := oi_ lj
  exact ⟨(.slice aD aF aE), bp, rfl, (fs_ z (fs_ z (fs_ z (fs_ z (fs_ z (fs_ z (fs_ z (fs_ z (fs_ z ((((fs_ z (fs_ z ((fs_ z (fs_ z (fs_ z (fs_ z (fs_ z (f0_ z) eh in_) Y (an.fresh aX)) ac in_) ad in_) af in_).extR ag) ae (ao.fresh aY)) aa in_).extR ai).extR al).extR av) aq in_) au in_) aw in_) ay (aC.fresh ba)) az (aB.fresh bb)) ax (aA.fresh bc)) aG in_) aH in_) cJ (aZ.fresh aj.n)), mi, (a_.fresh jI)⟩
 have lm := Zj b9 dh
 refine qs_ 4 ?_
 obtain ⟨g_, di⟩ := Zb lm
 refine s_w ((bM.2.1 + bN.2.1)) (k := .u64) (x := (bM.2.1 + bN.2.1)) (by kernel_rfl) (Zag g_) ?_
 refine qs_ 1 (lr_ 35 1 (.int .u64 am.2.1) d1 (qs_ 2 (Za (bD _ _ ?_))))
 refine ZcS ((bM.2.1 + bN.2.1) = am.2.1) (by kernel_rfl) rfl (fun b_ => ?_) (fun b_ => ?_)
 ·have ln := Zj b_ di
  refine sq_ fun hT => g_' ?_
  have jJ := (t_ ae.n aa.n)
  have gB := (aC.djn (aU.ltF.le jJ))
  have jK := (t_ (t_ ae.n aa.n) ai.n)
  have gC := (aB.djn (aU.ltF.le jK))
  have jL := (t_ (t_ (t_ ae.n aa.n) ai.n) al.n)
  have gD := (aA.djn (aU.ltF.le jL))
  have mj := ((((((((((((br.frS aa dn_).ext ai).ext al).ext av).frS aq dn_).frS au dn_).frS aw dn_).frS ay gB).frS az gC).frS ax gD).frS aG dn_).frS aH dn_)
  refine lr_ 30 0 (.agg #[i_ aL.1, .slice aD aF aE]) mj ?_
  have jM := (t_ (t_ (t_ (t_ Z.n O.n) V.n) J.n) X.n)
  have gE := (an.djn (ah.ltF.le jM))
  have jN := (t_ (t_ (t_ (t_ (t_ (t_ (t_ (t_ (t_ Z.n O.n) V.n) J.n) X.n) ab.n) Y.n) ac.n) ad.n) af.n)
  have gF := (ao.djn (ah.ltF.le jN))
  have jO := (t_ (t_ (t_ (t_ (t_ (t_ (t_ (t_ (t_ (t_ (t_ (t_ Z.n O.n) V.n) J.n) X.n) ab.n) Y.n) ac.n) ad.n) af.n) ag.n) ae.n) aa.n)
  have gG := (aC.djn (ah.ltF.le jO))
  have jP := (t_ (t_ (t_ (t_ (t_ (t_ (t_ (t_ (t_ (t_ (t_ (t_ (t_ Z.n O.n) V.n) J.n) X.n) ab.n) Y.n) ac.n) ad.n) af.n) ag.n) ae.n) aa.n) ai.n)
  have gH := (aB.djn (ah.ltF.le jP))
  have jQ := (t_ (t_ (t_ (t_ (t_ (t_ (t_ (t_ (t_ (t_ (t_ (t_ (t_ (t_ Z.n O.n) V.n) J.n) X.n) ab.n) Y.n) ac.n) ad.n) af.n) ag.n) ae.n) aa.n) ai.n) al.n)
  have gI := (aA.djn (ah.ltF.le jQ))
  have mk := ((((((((((((((((((((((((ah.ext Z).frS O dn_).frS V (ap.djn ah.ltF)).frS J dn_).frS X dn_).ext ab).frS Y gE).frS ac dn_).frS ad dn_).frS af dn_).ext ag).frS ae gF).frS aa dn_).ext ai).ext al).ext av).frS aq dn_).frS au dn_).frS aw dn_).frS ay gG).frS az gH).frS ax gI).frS aG dn_).frS aH dn_)
  have jR := (t_ (t_ ag.n ae.n) aa.n)
  have gJ := (aC.djn (aN.lt.le jR))
  have jS := (t_ (t_ (t_ ag.n ae.n) aa.n) ai.n)
  have gK := (aB.djn (aN.lt.le jS))
  have jT := (t_ (t_ (t_ (t_ ag.n ae.n) aa.n) ai.n) al.n)
  have gL := (aA.djn (aN.lt.le jT))
  have ml := (((((((((((((bt.fr ae (ao.djn aN.lt)).fr aa dn_).ext ai).ext al).ext av).fr aq dn_).fr au dn_).fr aw dn_).fr ay gJ).fr az gK).fr ax gL).fr aG dn_).fr aH dn_)
  obtain ⟨ec, kf, cK, lp⟩ := ra_ 30 0 aH.wf mk [i_ aL.1, .slice aD aF aE] [i_ aL.1, .slice aD aF aE]
  refine ek_ kf (Za (hT _ _ ?_))
  refine Zp (Zk ?_)
  refine ZX (vs := [.agg #[i_ aL.1, .slice aD aF aE]]) (ZC (Eq.trans (b := aL_ 30 (pt_ aP 0) ec) (by kernel_rfl) (lp.l_)) (rfl)) ?_
  have ej := ((fs_ z (fs_ z (fs_ z (fs_ z ((((f0_ z).extR aj).extR ak).extR Z) O in_) V (ap.fresh aW)) J in_) X in_).extR ab)
  have jU := (t_ (t_ (t_ (t_ (t_ (t_ (t_ (t_ Z.n O.n) V.n) J.n) X.n) ab.n) Y.n) ac.n) ad.n)
  have gM := (a_.djn (ah.ltF.le jU))
  have mm := (ml.fr cK (Dj.symm gM))
  have jV := (t_ (t_ (t_ (t_ (t_ (t_ (t_ (t_ (t_ (t_ aj.n ak.n) Z.n) O.n) V.n) J.n) X.n) ab.n) Y.n) ac.n) ad.n)
  obtain rfl := oi_ ln
  exact ⟨(.slice aD aF aE), bp, rfl, (fs_ z (fs_ z (fs_ z (fs_ z (fs_ z (fs_ z (fs_ z (fs_ z (fs_ z ((((fs_ z (fs_ z ((fs_ z (fs_ z (fs_ z (fs_ z (fs_ z (f0_ z) ej in_) Y (an.fresh aX)) ac in_) ad in_) af in_).extR ag) ae (ao.fresh aY)) aa in_).extR ai).extR al).extR av) aq in_) au in_) aw in_) ay (aC.fresh ba)) az (aB.fresh bb)) ax (aA.fresh bc)) aG in_) aH in_) cK (aZ.fresh aj.n)), mm, (a_.fresh jV)⟩
 have lq := Zf b_ di
 refine Zg (hO _ _ (sq_ fun hU => g_' (qs_ 1 ?_)))
 have jW := (t_ (t_ (t_ (t_ Z.n O.n) V.n) J.n) X.n)
 have gN := (an.djn (ah.ltF.le jW))
 have jX := (t_ (t_ (t_ (t_ (t_ (t_ (t_ (t_ (t_ Z.n O.n) V.n) J.n) X.n) ab.n) Y.n) ac.n) ad.n) af.n)
 have gO := (ao.djn (ah.ltF.le jX))
 have jY := (t_ (t_ (t_ (t_ (t_ (t_ (t_ (t_ (t_ (t_ (t_ (t_ Z.n O.n) V.n) J.n) X.n) ab.n) Y.n) ac.n) ad.n) af.n) ag.n) ae.n) aa.n)
 have gP := (aC.djn (ah.ltF.le jY))
 have jZ := (t_ (t_ (t_ (t_ (t_ (t_ (t_ (t_ (t_ (t_ (t_ (t_ (t_ Z.n O.n) V.n) J.n) X.n) ab.n) Y.n) ac.n) ad.n) af.n) ag.n) ae.n) aa.n) ai.n)
 have gQ := (aB.djn (ah.ltF.le jZ))
 have j0 := (t_ (t_ (t_ (t_ (t_ (t_ (t_ (t_ (t_ (t_ (t_ (t_ (t_ (t_ Z.n O.n) V.n) J.n) X.n) ab.n) Y.n) ac.n) ad.n) af.n) ag.n) ae.n) aa.n) ai.n) al.n)
 have gR := (aA.djn (ah.ltF.le j0))
 have mn := ((((((((((((((((((((((((ah.ext Z).frS O dn_).frS V (ap.djn ah.ltF)).frS J dn_).frS X dn_).ext ab).frS Y gN).frS ac dn_).frS ad dn_).frS af dn_).ext ag).frS ae gO).frS aa dn_).ext ai).ext al).ext av).frS aq dn_).frS au dn_).frS aw dn_).frS ay gP).frS az gQ).frS ax gR).frS aG dn_).frS aH dn_)
 obtain ⟨ed, kg, gU, lr⟩ := ra_ 30 0 aH.wf mn [i_ 0, .slice none 0 0] [i_ 0, .slice none 0 0]
 refine ek_ kg (Za (hU _ _ ?_))
 refine Zp ?_
 refine ZX (vs := [.agg #[i_ 0, .slice none 0 0]]) (ZC (Eq.trans (b := aL_ 30 (pt_ aP 0) ed) (by kernel_rfl) (lr.l_)) (rfl)) ?_
 have ek := ((fs_ z (fs_ z (fs_ z (fs_ z ((((f0_ z).extR aj).extR ak).extR Z) O in_) V (ap.fresh aW)) J in_) X in_).extR ab)
 obtain rfl := oi_ lq
 exact ⟨(.slice none 0 0), [], rfl, (fs_ z (fs_ z (fs_ z (fs_ z (fs_ z (fs_ z (fs_ z (fs_ z (fs_ z ((((fs_ z (fs_ z ((fs_ z (fs_ z (fs_ z (fs_ z (fs_ z (f0_ z) ek in_) Y (an.fresh aX)) ac in_) ad in_) af in_).extR ag) ae (ao.fresh aY)) aa in_).extR ai).extR al).extR av) aq in_) au in_) aw in_) ay (aC.fresh ba)) az (aB.fresh bb)) ax (aA.fresh bc)) aG in_) aH in_) gU (aZ.fresh aj.n)), (Ow.nil (by decide)), in_⟩
end Go.Vd

/-! (KWt7) -/

set_option maxRecDepth 100000
set_option maxHeartbeats 4000000
set_option linter.unusedVariables false
namespace Go.Vd
open Go.Proofs
attribute [local irreducible] Zs Zu aWp
theorem ZeB {H : AH} {aq : Value} {dG : Fp} {aI : Value} {dI : Fp} {aH : Value} {dH : Fp} {aG : Value} {dF : Fp} {aF : Value} {dE : Fp} {J : List (Int)} {aR : List (Int)} {aQ : List (Int × Int × Int × Int)} {a3 : List (Int)} {aP : List (Int × Int × Int × Int)} {r : Int × List (Int × Int)}
    (z : WF H) (aY : Sq (Zh .u32) 1 H aq J dG) (a0 : Sq (Zh .u32) 1 H aI aR dI) (aZ : Sq Ze 4 H aH aQ dH) (aX : Sq (Zh .u32) 1 H aG a3 dF) (aW : Sq Ze 4 H aF aP dE) (b5 : ZaO J aR aQ a3 aP = some r) :
    ACalls Tryz.prog 9 #[.agg #[aq, aI, aH, aG, aF]] H fun v H' => ∃ (cA : Value) (bU : Fp), v = .agg #[i_ r.1, cA] /\ FrS [] H H' /\ Sq Zak 2 H' cA r.2 bU /\ Inn [] H bU := by
 refine ab_ Tryz.func9 ?_
 unfold ZaO at b5
 refine sq_ fun eJ => g_' ?_
 refine Z3 z [aq, aI, aH, aG, aF] (Zd (aY.one1) (Zd (a0.one1) (Zd (aZ.one1) (Zd (aX.one1) (Zd (aW.one1) (ZN)))))) (by kernel_rfl) fun an gX Z g7 bD => ?_
 refine rk_ Z.wf [i_ 0, .slice none 0 0] fun al a4 aa aO ah => ?_
 refine Za (eJ _ _ (sq_ fun ef => g_' (qs_ 1 ?_)))
 have ao := (bD.ext aa)
 refine lr_ 22 0 (aq) ao ?_
 have cF := ((aY.ext Z).ext aa)
 refine cF.ln_ 22 (qs_ 1 (Za (ef _ _ (sq_ fun el => Zl (sq_ fun eq => ?_)))))
 obtain ⟨cl, b8, cu⟩ := bs_ b5
 refine Zv (fun α bL => Has α [(1, pt_ an 0), (2, pt_ al 0), (3, i_ (J.length : Int)), (14, .bool cl)] /\ a4 = bL) (fun _ cb => ?_) (fun α bL hM => ?_)
 ·refine g_' (qs_ 1 ?_)
  refine sb_ ((J.length : Int) > 65536) (fun bo => ?_) fun bo => ?_
  ·have fL := Zf bo b8
   refine qs_ 11 (Za ?_)
   obtain rfl := oi_ fL
   exact cb _ _ ⟨ha_, rfl⟩
  have fM := Zj bo b8
  refine qs_ 2 (lr_ 23 2 (aH) ao ?_)
  have gj := ((aZ.ext Z).ext aa)
  refine gj.ln_ 23 (qs_ 1 (lr_ 23 4 (aF) ao ?_))
  have gk := ((aW.ext Z).ext aa)
  refine gk.ln_ 23 ?_
  obtain ⟨dM, fP⟩ := Zb fM
  refine w_' (((aQ.length : Int) + (aP.length : Int))) (Zn dM) (qs_ 3 (Za ?_))
  obtain rfl := oi_ fP
  exact cb _ _ ⟨ha_, rfl⟩
 obtain ⟨b1, rfl⟩ := hM
 obtain ⟨β, rfl⟩ := Zi b1
 clear b1
 refine eq _ _ ?_
 refine wb_ (cl) (fun bq => ?_) fun bq => ?_
 ·have fR := Zf bq cu
  refine sq_ fun eG => g_' ?_
  obtain ⟨bH, d7, fZ⟩ := bs_ fR
  refine ck_ (ZaC aa.wf d7) ?_
  rintro _ gV ⟨rfl, bj⟩
  have gz := (ah.frS bj dn_)
  obtain ⟨cX, fg, dz, f0⟩ := ra_ 30 0 bj.wf gz [i_ bH, .slice none 0 0] [i_ bH, .slice none 0 0]
  refine ek_ fg (Za (eG _ _ ?_))
  refine Zp (ZI (Zk ?_))
  refine ZX (vs := [.agg #[i_ bH, .slice none 0 0]]) (ZC (Eq.trans (b := aL_ 30 (pt_ al 0) cX) (by kernel_rfl) (f0.l_)) (rfl)) ?_
  obtain rfl := oi_ fZ
  exact ⟨(.slice none 0 0), [], rfl, (fs_ z (fs_ z (((f0_ z).extR Z).extR aa) bj in_) dz (aO.fresh Z.n)), (Sq.nil (by decide)), in_⟩
 have f1 := ZL bq cu
 refine sq_ fun eI => ?_
 obtain ⟨cn, dY, cy⟩ := bs_ f1
 refine Zv (fun α bP => Has α [(1, pt_ an 0), (2, pt_ al 0), (3, i_ (J.length : Int)), (28, .bool cn)] /\ a4 = bP) (fun _ cc => ?_) (fun α bP hM => ?_)
 ·refine g_' (qs_ 1 (lr_ 22 1 (aI) ao ?_))
  have gA := ((a0.ext Z).ext aa)
  refine gA.ln_ 22 (qs_ 1 ?_)
  obtain ⟨bX, cz⟩ := Zb dY
  refine w_' (((J.length : Int) + 1)) (Zn (by have := bX; omega)) ?_
  refine Zgt ((aR.length : Int) = ((J.length : Int) + 1)) (by kernel_rfl) (fun bs => ?_) (fun bs => ?_)
  ·have f2 := Zf bs cz
   refine qs_ 2 (lr_ 22 3 (aG) ao ?_)
   have gB := ((aX.ext Z).ext aa)
   refine gB.ln_ 22 (qs_ 1 (w_' (((J.length : Int) + 1)) (Zn (by have := bX; omega)) (qs_ 3 (Za ?_))))
   obtain rfl := oi_ f2
   exact cc _ _ ⟨ha_, rfl⟩
  have f3 := Zj bs cz
  refine qs_ 9 (Za ?_)
  obtain rfl := oi_ f3
  exact cc _ _ ⟨ha_, rfl⟩
 obtain ⟨b4, rfl⟩ := hM
 obtain ⟨β, rfl⟩ := Zi b4
 clear b4
 refine eI _ _ ?_
 refine wb_ (cn) (fun bt => ?_) fun bt => ?_
 ·have f4 := Zf bt cy
  refine sq_ fun eK => g_' ?_
  obtain ⟨bI, d8, f5⟩ := bs_ f4
  refine ck_ (ZaC aa.wf d8) ?_
  rintro _ gW ⟨rfl, bk⟩
  have gC := (ah.frS bk dn_)
  obtain ⟨cY, fh, dA, f6⟩ := ra_ 30 0 bk.wf gC [i_ bI, .slice none 0 0] [i_ bI, .slice none 0 0]
  refine ek_ fh (Za (eK _ _ ?_))
  refine Zp (ZI (Zk ?_))
  refine ZX (vs := [.agg #[i_ bI, .slice none 0 0]]) (ZC (Eq.trans (b := aL_ 30 (pt_ al 0) cY) (by kernel_rfl) (f6.l_)) (rfl)) ?_
  obtain rfl := oi_ f5
  exact ⟨(.slice none 0 0), [], rfl, (fs_ z (fs_ z (((f0_ z).extR Z).extR aa) bk in_) dA (aO.fresh Z.n)), (Sq.nil (by decide)), in_⟩
 have f7 := ZL bt cy
 refine Zg (el _ _ (sq_ fun eL => ?_))
 refine ZJ [0, 1, 2, 3, 4, 5, 7, 8, 9, 10, 11, 12, 16, 6, 13, 14, 15, 17] (by kernel_rfl) ?_
 refine es_ 1 (mr_ 22 1 (aI) ao (es_ 2 (mr_ 23 2 (aH) ao ?_)))
 have cO := ((aZ.ext Z).ext aa)
 refine cO.mn_ 23 (es_ 1 ?_)
 refine ZcR (aG) (x := aL_ 22 (pt_ an 3) a4) (by kernel_rfl) (ao.l_) ?_
 refine es_ 2 ?_
 refine ZcR (aF) (x := aL_ 23 (pt_ an 4) a4) (by kernel_rfl) (ao.l_) ?_
 have cP := ((aW.ext Z).ext aa)
 refine cP.mn_ 23 ?_
 refine Zem aa.wf [i_ 0, .slice none 0 0] (by kernel_rfl) fun g3 gY X ak be => ?_
 have cQ := (((a0.ext Z).ext aa).ext X)
 obtain ⟨gG, d9, f8⟩ := bs_ f7
 refine dk_ (ZdE X.wf cQ d9) ?_
 rintro _ bQ ⟨hf, g6, rfl, O, cf, bz⟩
 obtain ⟨cZ, eM, c2, rfl⟩ := cf.form
 have bE := ((ao.ext X).frS O dn_)
 refine ⟨Zbb (y := aL_ 23 (pt_ an 4) bQ) (by kernel_rfl) (bE.l_) (Zbb (y := aL_ 22 (pt_ an 3) bQ) (by kernel_rfl) (bE.l_) (ZP)), ?_⟩
 have cB := ((((aX.ext Z).ext aa).ext X).fr O dn_)
 obtain ⟨gD, dZ, fj⟩ := bs_ f8
 refine dk_ (ZdE O.wf cB dZ) ?_
 rintro _ gJ ⟨g_, g4, rfl, Y, bA, bw⟩
 obtain ⟨c0, eN, c3, rfl⟩ := bA.form
 refine ⟨Z0 (by kernel_rfl) (Z0 (by kernel_rfl) (ZP)), ?_⟩
 have cC := (cf.fr Y dn_)
 refine d_lsl Y.wf [i_ gG.1, .slice cZ eM c2, i_ gD.1, .slice c0 eN c3] 2 (Zd (rfl) (Zd (cC.one1) (Zd (rfl) (Zd (bA.one1) (ZN))))) (by kernel_rfl) fun g1 gK V g8 fk => ?_
 have f9 := (cC.ext V)
 have f_ := (bA.ext V)
 obtain ⟨aL, d0, fm⟩ := bs_ fj
 refine dk_ (Ze8 V.wf f9.sq f_.sq fk d0) ?_
 rintro _ gL ⟨ha, dB, rfl, ac, cd, bx⟩
 obtain ⟨au, aA, ax, rfl⟩ := cd.form
 refine ⟨Z0 (by kernel_rfl) (Z0 (by kernel_rfl) (ZP)), ?_⟩
 have gb := ((((be.frS O dn_).frS Y dn_).ext V).frS ac dn_)
 obtain ⟨gM, e_, ad, co⟩ := ra_ 30 0 ac.wf gb [i_ aL.1, .slice au aA ax] [i_ aL.1, .slice au aA ax]
 refine fk_ e_ (Z0 (by kernel_rfl) (Z0 (by kernel_rfl) (ZP))) ?_
 refine ZE ?_
 refine eL _ _ (sq_ fun eb => sq_ fun ec => g_' (lr_ 30 0 (.agg #[i_ aL.1, .slice au aA ax]) co ?_))
 have c5 := (bw.djn (be.ltF.le O.n))
 have eO := (t_ (t_ O.n Y.n) V.n)
 have c6 := (bx.dj (Dj.app (bz.djn be.ltF) c5) (be.ltF.le eO))
 have cD := (cd.fr ad (Dj.symm c6))
 obtain ⟨gE, d1, cp⟩ := bs_ fm
 refine ck_ (Za4 ad.wf cD d1) ?_
 rintro _ gN ⟨rfl, ab⟩
 refine Za (ec _ _ ?_)
 refine wb_ (gE) (fun bl => ?_) fun bl => ?_
 ·have fo := Zf bl cp
  refine sq_ fun ed => g_' ?_
  have gc := (co.frS ab dn_)
  refine lr_ 30 0 (.agg #[i_ aL.1, .slice au aA ax]) gc ?_
  have gd := (((((((ah.ext X).frS O dn_).frS Y dn_).ext V).frS ac dn_).frS ad (ak.djn ah.ltF)).frS ab dn_)
  have gf := (cD.fr ab dn_)
  obtain ⟨cT, fa, bR, fs⟩ := ra_ 30 0 ab.wf gd [i_ aL.1, .slice au aA ax] [i_ aL.1, .slice au aA ax]
  refine ek_ fa (Za (ed _ _ ?_))
  refine Zp (Zk ?_)
  refine ZX (vs := [.agg #[i_ aL.1, .slice au aA ax]]) (ZC (Eq.trans (b := aL_ 30 (pt_ al 0) cT) (by kernel_rfl) (fs.l_)) (rfl)) ?_
  have eP := (t_ Z.n aa.n)
  have eQ := (t_ X.n O.n)
  have c7 := (bw.djn (ah.ltF.le eQ))
  have c8 := (bz.djn (ah.ltF.le X.n))
  have eR := (t_ (t_ (t_ X.n O.n) Y.n) V.n)
  have c9 := (bx.dj (Dj.app c8 c7) (ah.ltF.le eR))
  have gg := (gf.fr bR (Dj.symm c9))
  have eS := (t_ (t_ (t_ Z.n aa.n) X.n) O.n)
  have eT := (t_ (t_ Z.n aa.n) X.n)
  have eU := (t_ (t_ (t_ (t_ (t_ Z.n aa.n) X.n) O.n) Y.n) V.n)
  obtain rfl := oi_ fo
  exact ⟨(.slice au aA ax), dB, rfl, (fs_ z (fs_ z (fs_ z (fs_ z ((fs_ z (fs_ z ((((f0_ z).extR Z).extR aa).extR X) O in_) Y in_).extR V) ac in_) ad (ak.fresh eP)) ab in_) bR (aO.fresh Z.n)), gg, (Inn.trans (Inn.app (bz.fresh eT) (bw.fresh eS)) eU bx)⟩
 have ft := ZL bl cp
 refine Zg (eb _ _ (sq_ fun ee => g_' (qs_ 1 ?_)))
 obtain ⟨bV, fu⟩ := Zb ft
 refine Zej (t := 96) (m := 1) (l := (J.length : Int)) (c := (J.length : Int)) (enc := encB) (sz := 1) ab.wf (false : Bool) (by kernel_rfl) (by decide) bV.1 (Int.le_refl _) (by omega) (by have := bV; omega) (by kernel_rfl) fun hb a8 bg ae am bb => ?_
 obtain ⟨av, aB, ay, rfl⟩ := bb.form
 have bb : Ow encB 1 bg (.slice av aB ay) (List.replicate J.length (false : Bool)) a8 := bb
 refine qs_ 1 (Za (ee _ _ (sq_ fun eg => sq_ fun eh => g_' (qs_ 1 ?_))))
 have c_ := (ak.djn (bD.ltF.le aa.n))
 have cE := ((((((bE.frS Y dn_).ext V).frS ac dn_).frS ad c_).frS ab dn_).ext ae)
 refine lr_ 22 0 (aq) cE ?_
 have aC := (t_ Z.n aa.n)
 have da := (ak.djn (aY.lt.le aC))
 have bF := ((((((((cF.ext X).fr O dn_).fr Y dn_).ext V).fr ac dn_).fr ad da).fr ab dn_).ext ae)
 refine bF.ln_ 22 (qs_ 1 (Za (eh _ _ ?_)))
 obtain ⟨cR, dV, cq⟩ := bs_ fu
 refine Zv (fun α bJ => ∃ cj, cR = Sum.inr cj /\ Has α [(1, pt_ an 0), (2, pt_ al 0)] /\ FrS a8 bg bJ) (fun _ ej => ?_) (fun α bJ hM => ?_)
 ·refine Zl ?_
  obtain ⟨cg, dR⟩ := Zr.1 dV
  refine Zy (fun n α a5 => ∃ (seen0 : List (Bool)), ∃ (ag : Int), ZD (fun zz_ => Zax J zz_.1 zz_.2) n (seen0, ag) = some cR /\ Has α [(1, pt_ an 0), (2, pt_ al 0), (3, i_ (J.length : Int)), (5, .slice av aB ay), (66, aq), (67, i_ (J.length : Int)), (68, i_ ag)] /\ FrS a8 bg a5 /\ Ow encB 1 a5 (.slice av aB ay) seen0 a8) cg ⟨(List.replicate J.length (false : Bool)), 0, dR, ha_, (fr_ ae.wf), bb⟩ ?_
  rintro cg α a5 ⟨seen0, ag, dO, bZ, ap, bc⟩ gZ ek
  obtain ⟨eV, gH, rfl, a1, bu⟩ := Zt dO
  obtain ⟨β, rfl⟩ := Zi bZ
  clear bZ
  replace a1 : Zax J seen0 ag = some gH := a1
  unfold Zax at a1
  refine sn_ (sq_ fun em => ?_)
  refine wc_ (ag < (J.length : Int)) (fun aV => ?_) fun aV => ?_
  ·have fv := Zf aV a1
   refine Zg (em _ _ (sq_ fun eo => Zl (sq_ fun ep => g_' (qs_ 1 ?_))))
   obtain ⟨bW, fw⟩ := Zb fv
   have ch := (t_ (t_ (t_ (t_ (t_ (t_ (t_ (t_ Z.n aa.n) X.n) O.n) Y.n) V.n) ac.n) ad.n) ab.n)
   have db := (am.djn (aY.lt.le ch))
   have cG := (bF.fr ap db)
   refine cG.ix_ 22 bW aV (le_ 60 0 (.int .u32 (gt J ag)) cG bW aV (qs_ 2 (Za (ep _ _ (sq_ fun es => sq_ fun et => ?_)))))
   obtain ⟨ck, dW, cr⟩ := bs_ fw
   refine Zv (fun α bK => Has α [(1, pt_ an 0), (2, pt_ al 0), (3, i_ (J.length : Int)), (5, .slice av aB ay), (6, i_ ag), (7, .int .u32 (gt J ag)), (66, aq), (67, i_ (J.length : Int)), (68, i_ ag), (83, .bool ck)] /\ a5 = bK) (fun _ ca => ?_) (fun α bK hM => ?_)
   ·refine g_' (qs_ 1 ?_)
    obtain ⟨dJ, fx⟩ := Zb dW
    refine s_w ((gt J ag)) (k := .u64) (x := (gt J ag)) (by kernel_rfl) (Zag dJ) ?_
    refine qs_ 1 ?_
    obtain ⟨dK, ct⟩ := Zb fx
    refine s_w ((J.length : Int)) (k := .u64) (x := (J.length : Int)) (by kernel_rfl) (Zag (by have := dK; omega)) ?_
    refine sb_ ((gt J ag) ≥ (J.length : Int)) (fun bm => ?_) fun bm => ?_
    ·have fy := Zf bm ct
     refine qs_ 6 (Za ?_)
     obtain rfl := oi_ fy
     exact ca _ _ ⟨ha_, rfl⟩
    have fz := Zj bm ct
    refine qs_ 3 ?_
    obtain ⟨a9, fA⟩ := Zb fz
    refine l_' (elp (.slice av aB ay) 1 (gt J ag).toNat 0) (ZB Tryz.prog 96 (.slice av aB ay) (.int .u32 (gt J ag))) (bc.sq.idxb (by kernel_rfl) a9.1 a9.2) (le_ 4 0 (.bool (gt seen0 (gt J ag))) bc.sq a9.1 a9.2 (qs_ 1 (Za ?_)))
    obtain rfl := oi_ fA
    exact ca _ _ ⟨ha_, rfl⟩
   obtain ⟨b0, rfl⟩ := hM
   obtain ⟨β, rfl⟩ := Zi b0
   clear b0
   refine et _ _ ?_
   refine wb_ (ck) (fun bn => ?_) fun bn => ?_
   ·have fB := Zf bn cr
    refine sq_ fun eu => g_' (qs_ 1 ?_)
    obtain ⟨hj, d2, fC⟩ := bs_ fB
    refine ck_ (ZaC ap.wf d2) ?_
    rintro _ gO ⟨rfl, aS⟩
    obtain ⟨bG, d3, fD⟩ := bs_ fC
    refine ck_ (ZcN aS.wf (Sq.nil (enc := Zak) (sz := 2) (by decide)) d3) ?_
    rintro _ gP ⟨hc, dC, rfl, bh, ce, b9⟩
    obtain ⟨a6, bd, a7, rfl⟩ := ce.form
    have eW := (t_ (t_ (t_ (t_ (t_ (t_ X.n O.n) Y.n) V.n) ac.n) ad.n) ab.n)
    have dc := (am.djn (ah.ltF.le eW))
    have gh := (((((((((((ah.ext X).frS O dn_).frS Y dn_).ext V).frS ac dn_).frS ad (ak.djn ah.ltF)).frS ab dn_).ext ae).frS ap dc).frS aS dn_).frS bh dn_)
    obtain ⟨cU, fb, bS, fE⟩ := ra_ 30 0 bh.wf gh [i_ bG.1, .slice a6 bd a7] [i_ bG.1, .slice a6 bd a7]
    refine ek_ fb (Za (eu _ _ ?_))
    refine Zp (Zk (ZI (Zk (Zk (ZI (Zk (Zk ?_)))))))
    obtain ⟨hg, b6, d_⟩ := map_some fD
    subst d_
    obtain rfl := Zw bu
    have dT := elim_inl cq
    rw [dT] at b6
    refine ZX (vs := [.agg #[i_ bG.1, .slice a6 bd a7]]) (ZC (Eq.trans (b := aL_ 30 (pt_ al 0) cU) (by kernel_rfl) (fE.l_)) (rfl)) ?_
    have eX := (t_ (t_ (t_ (t_ (t_ (t_ (t_ (t_ (t_ X.n O.n) Y.n) V.n) ac.n) ad.n) ab.n) ae.n) ap.n) aS.n)
    have dd := (b9.djn (ah.ltF.le eX))
    have gi := (ce.fr bS (Dj.symm dd))
    have eY := (t_ (t_ (t_ (t_ (t_ (t_ (t_ (t_ (t_ (t_ (t_ Z.n aa.n) X.n) O.n) Y.n) V.n) ac.n) ad.n) ab.n) ae.n) ap.n) aS.n)
    obtain rfl := oi_ b6
    exact ⟨(.slice a6 bd a7), dC, rfl, (fs_ z (fs_ z (fs_ z (fs_ z ((fs_ z (fs_ z (fs_ z ((fs_ z (fs_ z ((((f0_ z).extR Z).extR aa).extR X) O in_) Y in_).extR V) ac in_) ad (ak.fresh aC)) ab in_).extR ae) ap (am.fresh ch)) aS in_) bh in_) bS (aO.fresh Z.n)), gi.sq, (b9.fresh eY)⟩
   have fF := ZL bn cr
   refine Zg (es _ _ (g_' (qs_ 2 ?_)))
   obtain ⟨a_, fG⟩ := Zb fF
   refine l_' (elp (.slice av aB ay) 1 (gt J ag).toNat 0) (ZB Tryz.prog 96 (.slice av aB ay) (.int .u32 (gt J ag))) (bc.sq.idxb (by kernel_rfl) a_.1 a_.2) ?_
   obtain ⟨gQ, fc, dx, dQ⟩ := Ow.store (P := Tryz.prog) (t := 4) (off := 0) ap.wf bc a_.1 a_.2 (.bool true) [.bool true] (by kernel_rfl) (by kernel_rfl) rfl true (Nat.le_of_ble_eq_true rfl) (by kernel_rfl)
   refine ek_ fc (Za (eo _ _ (g_' ?_)))
   obtain ⟨dL, fH⟩ := Zb fG
   refine w_' ((ag + 1)) (Zn (by have := dL; omega)) (qs_ 1 (Za ?_))
   obtain rfl := oi_ fH
   exact ek eV _ _ lt_ ⟨(seen0.set (gt J ag).toNat true), (ag + 1), bu, ha_, (fs_ ae.wf (fs_ ae.wf (fr_ ae.wf) ap ir_) dx ir_), dQ⟩
  have fI := Zj aV a1
  refine ZA (Zm (Zm (ZK ?_)))
  obtain rfl := oi_ fI
  obtain rfl := Zw bu
  exact ej _ _ ⟨_, rfl, ha_, (fs_ ae.wf (fr_ ae.wf) ap ir_)⟩
 obtain ⟨cj, rfl, bY, aj⟩ := hM
 have fJ := elim_inr cq
 obtain ⟨β, rfl⟩ := Zi bY
 clear bY
 refine eg _ _ (sq_ fun ev => g_' ?_)
 have eZ := (t_ (t_ (t_ (t_ (t_ (t_ (t_ aa.n X.n) O.n) Y.n) V.n) ac.n) ad.n) ab.n)
 have de := (am.djn (bD.ltF.le eZ))
 have cH := (cE.frS aj de)
 refine lr_ 25 0 (.agg #[aq, aI, aH, aG, aF]) cH ?_
 have aK := (t_ (t_ (t_ (t_ (t_ (t_ (t_ (t_ Z.n aa.n) X.n) O.n) Y.n) V.n) ac.n) ad.n) ab.n)
 have df := (am.djn (aY.lt.le aK))
 have cI := (bF.fr aj df)
 have dg := (ak.djn (a0.lt.le aC))
 have dh := (am.djn (a0.lt.le aK))
 have cJ := ((((((((cQ.fr O dn_).fr Y dn_).ext V).fr ac dn_).fr ad dg).fr ab dn_).ext ae).fr aj dh)
 have di := (ak.djn (aZ.lt.le aC))
 have dk := (am.djn (aZ.lt.le aK))
 have cK := (((((((((cO.ext X).fr O dn_).fr Y dn_).ext V).fr ac dn_).fr ad di).fr ab dn_).ext ae).fr aj dk)
 have dm := (ak.djn (aX.lt.le aC))
 have dp := (am.djn (aX.lt.le aK))
 have cL := (((((((cB.fr Y dn_).ext V).fr ac dn_).fr ad dm).fr ab dn_).ext ae).fr aj dp)
 have dq := (ak.djn (aW.lt.le aC))
 have dr := (am.djn (aW.lt.le aK))
 have cM := (((((((((cP.ext X).fr O dn_).fr Y dn_).ext V).fr ac dn_).fr ad dq).fr ab dn_).ext ae).fr aj dr)
 obtain ⟨bf, d4, fK⟩ := bs_ fJ
 refine ck_ (ZdJ aj.wf cI cJ cK cL cM d4) ?_
 rintro hd bM ⟨_, g5, rfl, af, bB, g9⟩
 obtain ⟨c1, e0, c4, rfl⟩ := bB.form
 refine qs_ 1 (Za (ev _ _ (sq_ fun ew => sq_ fun ey => g_' (qs_ 1 (bB.sq.ln_ 38 (qs_ 1 (Za (ey _ _ ?_))))))))
 obtain ⟨cS, dX, cv⟩ := bs_ fK
 refine Zv (fun α bN => ∃ cm, cS = Sum.inr cm /\ Has α [(2, pt_ al 0)] /\ FrS [] bM bN) (fun _ ez => ?_) (fun α bN hM => ?_)
 ·refine Zl ?_
  obtain ⟨ci, dS⟩ := Zr.1 dX
  refine Zy (fun n α bO => ∃ (aJ : Int), ZD (fun zz_ => Zav J aR aQ a3 aP bf zz_) n aJ = some cS /\ Has α [(1, pt_ an 0), (2, pt_ al 0), (8, .slice c1 e0 c4), (94, i_ (bf.length : Int)), (95, i_ aJ)] /\ FrS [] bM bO) ci ⟨0, dS, ha_, (fr_ af.wf)⟩ ?_
  rintro ci α bO ⟨aJ, dP, b3, ai⟩ g0 eA
  obtain ⟨e1, gI, rfl, a2, bv⟩ := Zt dP
  obtain ⟨β, rfl⟩ := Zi b3
  clear b3
  replace a2 : Zav J aR aQ a3 aP bf aJ = some gI := a2
  unfold Zav at a2
  refine sn_ (sq_ fun eB => ?_)
  refine wc_ (aJ < (bf.length : Int)) (fun bp => ?_) fun bp => ?_
  ·have fN := Zf bp a2
   refine Zg (eB _ _ (sq_ fun eC => Zl (sn_ (sq_ fun eD => g_' ?_))))
   have gl := ((cH.frS af dn_).frS ai dn_)
   refine lr_ 25 0 (.agg #[aq, aI, aH, aG, aF]) gl (qs_ 2 ?_)
   have gm := ((cI.fr af dn_).fr ai dn_)
   have gn := ((cJ.fr af dn_).fr ai dn_)
   have go := ((cK.fr af dn_).fr ai dn_)
   have gp := ((cL.fr af dn_).fr ai dn_)
   have gq := ((cM.fr af dn_).fr ai dn_)
   have gr := (bB.fr ai dn_)
   obtain ⟨aM, d5, fO⟩ := bs_ fN
   refine ck_ (Zfr ai.wf gm gn go gp gq gr.sq d5) ?_
   rintro _ gR ⟨he, dD, rfl, aE, bC, b_⟩
   obtain ⟨aw, aD, az, rfl⟩ := bC.form
   refine rk_ aE.wf [i_ 0, .slice none 0 0] fun g2 gS aT ba fQ => ?_
   have gs := (bC.ext aT)
   obtain ⟨gT, fd, aU, cw⟩ := ra_ 30 0 aT.wf fQ [i_ aM.1, .slice aw aD az] [i_ aM.1, .slice aw aD az]
   refine ek_ fd (Za (eD _ _ (sq_ fun eE => g_' (lr_ 30 0 (.agg #[i_ aM.1, .slice aw aD az]) cw ?_))))
   have cN := (gs.fr aU (ba.djn bC.lt))
   obtain ⟨gF, d6, cx⟩ := bs_ fO
   refine ck_ (Za4 aU.wf cN.sq d6) ?_
   rintro _ gU ⟨rfl, aN⟩
   refine Za (eE _ _ ?_)
   refine wb_ (gF) (fun br => ?_) fun br => ?_
   ·have fS := Zf br cx
    refine sq_ fun eF => g_' ?_
    have gu := (cw.frS aN dn_)
    refine lr_ 30 0 (.agg #[i_ aM.1, .slice aw aD az]) gu ?_
    have e2 := (t_ (t_ (t_ (t_ (t_ (t_ X.n O.n) Y.n) V.n) ac.n) ad.n) ab.n)
    have dt := (am.djn (ah.ltF.le e2))
    have e3 := (t_ (t_ (t_ (t_ (t_ (t_ (t_ (t_ (t_ (t_ (t_ X.n O.n) Y.n) V.n) ac.n) ad.n) ab.n) ae.n) aj.n) af.n) ai.n) aE.n)
    have du := (ba.djn (ah.ltF.le e3))
    have gv := (((((((((((((((ah.ext X).frS O dn_).frS Y dn_).ext V).frS ac dn_).frS ad (ak.djn ah.ltF)).frS ab dn_).ext ae).frS aj dt).frS af dn_).frS ai dn_).frS aE dn_).ext aT).frS aU du).frS aN dn_)
    have gw := (cN.fr aN dn_)
    obtain ⟨cV, fe, bT, fT⟩ := ra_ 30 0 aN.wf gv [i_ aM.1, .slice aw aD az] [i_ aM.1, .slice aw aD az]
    refine ek_ fe (Za (eF _ _ ?_))
    refine Zp (ZI (Zk (Zk (ZI (Zk (Zk ?_))))))
    obtain ⟨hh, b7, ea⟩ := map_some fS
    subst ea
    obtain rfl := Zw bv
    have dU := elim_inl cv
    rw [dU] at b7
    refine ZX (vs := [.agg #[i_ aM.1, .slice aw aD az]]) (ZC (Eq.trans (b := aL_ 30 (pt_ al 0) cV) (by kernel_rfl) (fT.l_)) (rfl)) ?_
    have e4 := (t_ (t_ (t_ (t_ (t_ (t_ (t_ (t_ (t_ (t_ (t_ (t_ (t_ Z.n aa.n) X.n) O.n) Y.n) V.n) ac.n) ad.n) ab.n) ae.n) aj.n) af.n) ai.n) aE.n)
    have e5 := (t_ (t_ (t_ (t_ (t_ (t_ (t_ (t_ (t_ (t_ X.n O.n) Y.n) V.n) ac.n) ad.n) ab.n) ae.n) aj.n) af.n) ai.n)
    have dv := (b_.djn (ah.ltF.le e5))
    have gx := (gw.fr bT (Dj.symm dv))
    have e6 := (t_ (t_ (t_ (t_ (t_ (t_ (t_ (t_ (t_ (t_ (t_ (t_ Z.n aa.n) X.n) O.n) Y.n) V.n) ac.n) ad.n) ab.n) ae.n) aj.n) af.n) ai.n)
    obtain rfl := oi_ b7
    exact ⟨(.slice aw aD az), dD, rfl, (fs_ z (fs_ z (fs_ z ((fs_ z (fs_ z (fs_ z (fs_ z ((fs_ z (fs_ z (fs_ z ((fs_ z (fs_ z ((((f0_ z).extR Z).extR aa).extR X) O in_) Y in_).extR V) ac in_) ad (ak.fresh aC)) ab in_).extR ae) aj (am.fresh aK)) af in_) ai in_) aE in_).extR aT) aU (ba.fresh e4)) aN in_) bT (aO.fresh Z.n)), gx.sq, (b_.fresh e6)⟩
   have fU := ZL br cx
   refine Zg (eC _ _ (g_' ?_))
   obtain ⟨dN, fV⟩ := Zb fU
   refine w_' ((aJ + 1)) (Zn dN) (qs_ 1 (Za ?_))
   have e8 := (t_ ai.n aE.n)
   obtain rfl := oi_ fV
   exact eA e1 _ _ lt_ ⟨(aJ + 1), bv, ha_, (fs_ af.wf (fs_ af.wf ((fs_ af.wf (fs_ af.wf (fr_ af.wf) ai in_) aE in_).extR aT) aU (ba.fresh e8)) aN in_)⟩
  have fW := Zj bp a2
  refine ZA (Zm (Zm (ZK ?_)))
  obtain rfl := oi_ fW
  obtain rfl := Zw bv
  exact ez _ _ ⟨_, rfl, ha_, (fs_ af.wf (fr_ af.wf) ai in_)⟩
 obtain ⟨cm, rfl, b2, bi⟩ := hM
 have fX := elim_inr cv
 obtain ⟨β, rfl⟩ := Zi b2
 clear b2
 refine ew _ _ (sq_ fun eH => g_' (qs_ 1 ?_))
 have e9 := (t_ (t_ (t_ (t_ (t_ (t_ X.n O.n) Y.n) V.n) ac.n) ad.n) ab.n)
 have dw := (am.djn (ah.ltF.le e9))
 have gy := (((((((((((ah.ext X).frS O dn_).frS Y dn_).ext V).frS ac dn_).frS ad (ak.djn ah.ltF)).frS ab dn_).ext ae).frS aj dw).frS af dn_).frS bi dn_)
 obtain ⟨cW, ff, dy, fY⟩ := ra_ 30 0 bi.wf gy [i_ 0, .slice none 0 0] [i_ 0, .slice none 0 0]
 refine ek_ ff (Za (eH _ _ ?_))
 refine Zp ?_
 refine ZX (vs := [.agg #[i_ 0, .slice none 0 0]]) (ZC (Eq.trans (b := aL_ 30 (pt_ al 0) cW) (by kernel_rfl) (fY.l_)) (rfl)) ?_
 obtain rfl := oi_ fX
 exact ⟨(.slice none 0 0), [], rfl, (fs_ z (fs_ z (fs_ z (fs_ z ((fs_ z (fs_ z (fs_ z ((fs_ z (fs_ z ((((f0_ z).extR Z).extR aa).extR X) O in_) Y in_).extR V) ac in_) ad (ak.fresh aC)) ab in_).extR ae) aj (am.fresh aK)) af in_) bi in_) dy (aO.fresh Z.n)), (Sq.nil (by decide)), in_⟩
theorem ZhA {H : AH} {aZ : Value} {dL : Fp} {a0 : Value} {dN : Fp} {bi : Value} {dM : Fp} {aY : Value} {dK : Fp} {bh : Value} {dJ : Fp} {ak : List (Int)} {O : List (Int)} {Z : List (Int × Int × Int × Int)} {J : List (Int)} {V : List (Int × Int × Int × Int)} {r : List (List (Int × Int))}
    (a8 : WF H) (bC : Sq (Zh .u32) 1 H aZ ak dL) (bf : Sq (Zh .u32) 1 H a0 O dN) (aX : Sq Ze 4 H bi Z dM) (aW : Sq (Zh .u32) 1 H aY J dK) (aN : Sq Ze 4 H bh V dJ) (cC : Zdb ak O Z J V = some r) :
    ACalls Tryz.prog 49 #[.agg #[aZ, a0, bi, aY, bh]] H fun v H' => ∃ (cR : Value) (ce : Fp), v = .agg #[cR] /\ FrS [] H H' /\ Nst (CR.sl Z1 2) H' cR r ce /\ Inn [] H ce := by
 refine ab_ Tryz.func49 ?_
 unfold Zdb at cC
 refine sq_ fun eE => g_' ?_
 refine Z3 a8 [aZ, a0, bi, aY, bh] (Zd (bC.one1) (Zd (bf.one1) (Zd (aX.one1) (Zd (aW.one1) (Zd (aN.one1) (ZN)))))) (by kernel_rfl) fun aP gj aj gF bm => ?_
 refine rk_ aj.wf [.slice none 0 0] fun aE gf af dT a6 => ?_
 refine Za (eE _ _ (sq_ fun et => g_' (qs_ 1 ?_)))
 have cT := (bm.ext af)
 refine lr_ 22 0 (aZ) cT ?_
 have cU := ((bC.ext aj).ext af)
 refine cU.ln_ 22 ?_
 obtain ⟨cg, fy⟩ := Zb cC
 refine Zej (t := 104) (m := 24) (l := (ak.length : Int)) (c := (ak.length : Int)) (enc := id) (sz := 1) af.wf [.slice none 0 0] (by kernel_rfl) (by decide) cg.1 (Int.le_refl _) (by omega) (by have := cg; omega) (by kernel_rfl) fun gN aL c3 ag az ap => ?_
 replace ap := Nst.zeros (C := (CR.sl Z1 2)) (x0 := ([] : List (Int × Int))) ap (fun _ => Zgo (Ow.nil (by decide)))
 obtain ⟨ab, ae, ac, rfl⟩ := ap.form
 have ap : Nst (CR.sl Z1 2) c3 (.slice ab ae ac) (List.replicate ak.length ([] : List (Int × Int))) aL := ap
 refine qs_ 1 ?_
 refine rk_ ag.wf [.slice none 0 0] fun an gi ai al au => ?_
 have f6 := (ap.ext ai)
 obtain ⟨a_, fk, Y, bN⟩ := ra_ 106 0 ai.wf au [.slice ab ae ac] [.slice ab ae ac]
 refine ek_ fk (Za (et _ _ (sq_ fun eC => sq_ fun eD => g_' (qs_ 1 ?_))))
 have e9 := (t_ af.n ag.n)
 have dC := (al.djn (bm.ltF.le e9))
 have cY := (((cT.ext ag).ext ai).frS Y dC)
 refine lr_ 22 0 (aZ) cY ?_
 have aO := (t_ (t_ aj.n af.n) ag.n)
 have dD := (al.djn (bC.lt.le aO))
 have f7 := (((cU.ext ag).ext ai).fr Y dD)
 refine f7.ln_ 22 (qs_ 1 (Za (eD _ _ ?_)))
 obtain ⟨cO, ek, fN⟩ := bs_ fy
 refine Zv (fun α bz => ∃ (bc : Fp), Has α [(2, pt_ aE 0), (3, pt_ an 0)] /\ FrS aL a_ bz /\ Nst (CR.sl Z1 2) bz (.slice ab ae ac) cO bc /\ Inn aL a_ bc) (fun _ eF => ?_) (fun α bz hM => ?_)
 ·refine Zl ?_
  obtain ⟨cN, d5⟩ := Zr.1 ek
  have f8 := (f6.fr Y (al.djn ap.lt))
  refine Zy (fun n α aD => ∃ (z : Int), ∃ (a7 : List (List (Int × Int))), ∃ (ay : Fp), ZD (fun zz_ => Zcn ak O Z J V zz_.1 zz_.2) n (z, a7) = some cO /\ Has α [(1, pt_ aP 0), (2, pt_ aE 0), (3, pt_ an 0), (16, i_ (ak.length : Int)), (17, i_ z)] /\ FrS aL a_ aD /\ Nst (CR.sl Z1 2) aD (.slice ab ae ac) a7 ay /\ Inn aL a_ ay) cN ⟨0, (List.replicate ak.length ([] : List (Int × Int))), aL, d5, ha_, (fr_ Y.wf), f8, ir_⟩ ?_
  rintro cN α aD ⟨z, a7, ay, dY, cu, ad, cG, aq⟩ gm eG
  obtain ⟨e_, gd, rfl, a3, cB⟩ := Zt dY
  obtain ⟨β, rfl⟩ := Zi cu
  clear cu
  replace a3 : Zcn ak O Z J V z a7 = some gd := a3
  unfold Zcn at a3
  refine sn_ (sq_ fun eH => ?_)
  refine wc_ (z < (ak.length : Int)) (fun bB => ?_) fun bB => ?_
  ·have fO := Zf bB a3
   refine Zg (eH _ _ (sq_ fun eI => Zl (sn_ (sq_ fun eJ => sq_ fun eK => ?_))))
   refine ZJ [0, 1, 2, 3, 4, 5, 6, 7, 8, 9, 10, 11, 12, 13, 14, 15] (by kernel_rfl) ?_
   refine es_ 1 ?_
   have ca := (az.djn (bm.ltF.le af.n))
   have br := (cY.frS ad ca)
   refine mr_ 23 2 (bi) br (es_ 1 (mr_ 22 1 (a0) br (es_ 1 ?_)))
   obtain ⟨am, fP⟩ := Zb fO
   have dE := (al.djn (bf.lt.le aO))
   have bl := (t_ aj.n af.n)
   have dF := (az.djn (bf.lt.le bl))
   have bs := ((((((bf.ext aj).ext af).ext ag).ext ai).fr Y dE).fr ad dF)
   refine bs.mx_ 22 am.1 am.2 (me_ 60 0 (.int .u32 (gt O z)) bs am.1 am.2 (es_ 1 (mr_ 22 1 (a0) br (es_ 1 ?_))))
   obtain ⟨bA, fQ⟩ := Zb fP
   refine d_w ((z + 1)) (k := .i64) (x := (z + 1)) (by kernel_rfl) (Zn (by have := bA; omega)) ?_
   obtain ⟨aM, fR⟩ := Zb fQ
   refine bs.mx_ 22 aM.1 aM.2 (me_ 60 0 (.int .u32 (gt O (z + 1))) bs aM.1 aM.2 ?_)
   obtain ⟨bd, fm⟩ := Zb fR
   have dd := (al.djn (aX.lt.le aO))
   have b0 := (az.djn (aX.lt.le bl))
   have fU := ((((((aX.ext aj).ext af).ext ag).ext ai).fr Y dd).fr ad b0)
   obtain ⟨gK, fa, bG⟩ := Sq.cut (P := Tryz.prog) fU (t := 23) (by kernel_rfl) (lo := (some (.int .u32 (gt O z)))) (hi := (some (.int .u32 (gt O (z + 1))))) (l := (gt O z).toNat) (r := (gt O (z + 1)).toNat) (ZQ _ (by have := bd; omega)) (ZQ _ (by have := bd; omega)) (by have := bd; omega) (by have := bd; omega)
   obtain ⟨bV, cH, bY, rfl⟩ := bG.form
   refine Zdv (.slice bV cH bY) (by kernel_rfl) fa ?_
   refine bG.mn_ 23 (es_ 1 ?_)
   refine ZE ?_
   refine eK _ _ ?_
   obtain ⟨bL, eh, fo⟩ := bs_ fm
   refine Zv (fun α aC => ∃ (aB : Fp), Has α [(1, pt_ aP 0), (2, pt_ aE 0), (3, pt_ an 0), (4, i_ z), (16, i_ (ak.length : Int)), (17, i_ z)] /\ FrS ay aD aC /\ Nst (CR.sl Z1 2) aC (.slice ab ae ac) bL aB /\ Inn ay aD aB) (fun _ em => ?_) (fun α aC hM => ?_)
   ·refine Zl ?_
    obtain ⟨cI, d3⟩ := Zr.1 eh
    refine Zy (fun n α bu => ∃ (w0 : List (List (Int × Int))), ∃ (aa : Int), ∃ (aR : Fp), ZD (fun zz_ => ZbJ O Z z zz_.1 zz_.2) n (w0, aa) = some bL /\ Has α [(1, pt_ aP 0), (2, pt_ aE 0), (3, pt_ an 0), (4, i_ z), (16, i_ (ak.length : Int)), (17, i_ z), (33, .slice bV cH bY), (34, i_ (((Z.take (gt O (z + 1)).toNat).drop (gt O z).toNat).length : Int)), (35, i_ aa)] /\ FrS ay aD bu /\ Nst (CR.sl Z1 2) bu (.slice ab ae ac) w0 aR /\ Inn ay aD aR) cI ⟨a7, 0, ay, d3, ha_, (fr_ ad.wf), cG, ir_⟩ ?_
    rintro cI α bu ⟨w0, aa, aR, dW, cn, av, bI, a4⟩ gk eo
    obtain ⟨eO, gb, rfl, a1, cz⟩ := Zt dW
    obtain ⟨β, rfl⟩ := Zi cn
    clear cn
    replace a1 : ZbJ O Z z w0 aa = some gb := a1
    unfold ZbJ at a1
    refine sn_ (sq_ fun ep => ?_)
    refine wc_ (aa < (((Z.take (gt O (z + 1)).toNat).drop (gt O z).toNat).length : Int)) (fun aU => ?_) fun aU => ?_
    ·have fs := Zf aU a1
     refine Zg (ep _ _ (sq_ fun eq => Zl (sq_ fun es => g_' ?_)))
     obtain ⟨cf, ft⟩ := Zb fs
     have eP := (t_ (t_ (t_ (t_ aj.n af.n) ag.n) ai.n) Y.n)
     have de := (aq.dj b0 (aX.lt.le eP))
     have cS := (bG.fr av de)
     refine cS.ix_ 23 cf aU (le_ 62 0 (.agg #[.int .u32 ((gt ((Z.take (gt O (z + 1)).toNat).drop (gt O z).toNat) aa).1), .int .u64 ((gt ((Z.take (gt O (z + 1)).toNat).drop (gt O z).toNat) aa).2.1), .int .u32 ((gt ((Z.take (gt O (z + 1)).toNat).drop (gt O z).toNat) aa).2.2.1), .int .u32 ((gt ((Z.take (gt O (z + 1)).toNat).drop (gt O z).toNat) aa).2.2.2)]) cS cf aU ?_)
     refine rk_ av.wf [.int .u32 0, .int .u64 0, .int .u32 0, .int .u32 0] fun gp gg aH bD fu => ?_
     obtain ⟨bv, fb, aI, cP⟩ := ra_ 62 0 aH.wf fu [.int .u32 ((gt ((Z.take (gt O (z + 1)).toNat).drop (gt O z).toNat) aa).1), .int .u64 ((gt ((Z.take (gt O (z + 1)).toNat).drop (gt O z).toNat) aa).2.1), .int .u32 ((gt ((Z.take (gt O (z + 1)).toNat).drop (gt O z).toNat) aa).2.2.1), .int .u32 ((gt ((Z.take (gt O (z + 1)).toNat).drop (gt O z).toNat) aa).2.2.2)] [.int .u32 ((gt ((Z.take (gt O (z + 1)).toNat).drop (gt O z).toNat) aa).1), .int .u64 ((gt ((Z.take (gt O (z + 1)).toNat).drop (gt O z).toNat) aa).2.1), .int .u32 ((gt ((Z.take (gt O (z + 1)).toNat).drop (gt O z).toNat) aa).2.2.1), .int .u32 ((gt ((Z.take (gt O (z + 1)).toNat).drop (gt O z).toNat) aa).2.2.2)]
     refine ek_ fb (Za (es _ _ ?_))
     refine ZJ [0, 1, 2, 3, 4, 5, 6, 7, 8, 9, 10, 11, 12, 13, 14, 15, 16, 17] (by kernel_rfl) ?_
     refine es_ 1 ?_
     have b1 := (al.djn ap.lt)
     have b2 := (aq.dj (Dj.symm b1) (au.ltF.le Y.n))
     have eQ := (t_ (t_ Y.n ad.n) av.n)
     have df := (bD.djn (au.ltF.le eQ))
     have bO := ((((bN.frS ad (Dj.symm b1)).frS av b2).ext aH).frS aI df)
     refine ZcR (.slice ab ae ac) (x := aL_ 104 (pt_ an 0) bv) (by kernel_rfl) (bO.l_) ?_
     refine es_ 2 (mr_ 104 0 (.slice ab ae ac) bO (es_ 1 ?_))
     obtain ⟨aT, fv⟩ := Zb ft
     have bo := ((bI.ext aH).fr aI (bD.djn bI.lt))
     refine bo.mx_ 104 am.1 aT ?_
     obtain ⟨gs, gv, dZ, eb, d1, d_⟩ := bo.kid am.1 aT
     obtain ⟨fS, rfl, d6⟩ := Zat dZ
     have cE : KdS Z1 2 bv fS (gt w0 z) aR (.slice ab ae ac) 1 z.toNat 0 := ⟨d6.sq.up eb bo.lt, d_ 0 _ rfl (by decide)⟩
     obtain ⟨c6, eR, c_, rfl⟩ := cE.sq.form
     refine m_' (.slice c6 eR c_) (aL_ 192 (elp (.slice ab ae ac) 1 z.toNat 0) bv) (d1 _ _ _ _ (by kernel_rfl)) (es_ 1 (mr_ 60 0 (.int .u32 ((gt ((Z.take (gt O (z + 1)).toNat).drop (gt O z).toNat) aa).1)) cP ?_))
     obtain ⟨dO, fw⟩ := Zb fv
     refine d_w ((gt ((Z.take (gt O (z + 1)).toNat).drop (gt O z).toNat) aa).1) (k := .i64) (x := (gt ((Z.take (gt O (z + 1)).toNat).drop (gt O z).toNat) aa).1) (by kernel_rfl) (Zn dO) ?_
     refine es_ 1 (mr_ 35 1 (.int .u64 ((gt ((Z.take (gt O (z + 1)).toNat).drop (gt O z).toNat) aa).2.1)) cP (es_ 1 ?_))
     refine Zjj (enc := Z1) (sz := 2) aI.wf [((gt ((Z.take (gt O (z + 1)).toNat).drop (gt O z).toNat) aa).1, (gt ((Z.take (gt O (z + 1)).toNat).drop (gt O z).toNat) aa).2.1)] 1 (by decide) (fun _ _ => rfl) (fun _ _ => rfl) rfl (by kernel_rfl) fun gL gw bS aF gG cv => ?_
     obtain ⟨gn, gI, gq, rfl⟩ := cv.form
     have fV := (bo.ext aF)
     have fW := (cE.ext aF)
     obtain ⟨gx, gy, co, d7, b3, ec, ed⟩ := Nst.borrow Zgc fV am.1 aT fW rfl
     have cZ := Inn.sub' (H := bS) ec
     have bR := Inn.sub' (H := bS) ed
     obtain ⟨dP, fx⟩ := Zb fw
     obtain ⟨gM, c1, gz, fc, aQ, cw, ck⟩ := Ow.append (P := Tryz.prog) 16 aF.wf d7 cv.sq (fun _ _ => rfl) (at_ := #[192, 192]) rfl rfl (by kernel_rfl) (by kernel_rfl) (by decide) (by have := dP; first | omega | (simp only [List.length_cons, List.length_nil] at this ⊢; omega) | (simp at this ⊢; omega))
     obtain ⟨c7, eS, da, rfl⟩ := cw.form
     have eT := (t_ Y.n ad.n)
     have dg := (a4.dj b2 (au.ltF.le eT))
     have eU := (t_ (t_ (t_ (t_ (t_ Y.n ad.n) av.n) aH.n) aI.n) aF.n)
     have dh := (bR.dj dg (au.ltF.le eU))
     have fX := ((bO.ext aF).frS aQ dh)
     refine Zjv (.slice c7 eS da) (by kernel_rfl) (fc) (Zbb (y := aL_ 104 (pt_ an 0) c1) (by kernel_rfl) (fX.l_) (ZP)) ?_
     have cV := (co.fr aQ (Dj.symm b3))
     refine cV.mx_ 104 am.1 aT ?_
     have di := (ck.dj (Dj.symm b3) co.lt)
     obtain ⟨c2, cc, fd, dG, bE, dU⟩ := Hol.close (P := Tryz.prog) (t := 192) aQ.wf cV cw (Dj.symm di) am.1 aT (by kernel_rfl) (by kernel_rfl) (by kernel_rfl)
     have bE : Nst (CR.sl Z1 2) c2 (.slice ab ae ac) (w0.set z.toNat ((gt w0 z) ++ [((gt ((Z.take (gt O (z + 1)).toNat).drop (gt O z).toNat) aa).1, (gt ((Z.take (gt O (z + 1)).toNat).drop (gt O z).toNat) aa).2.1)])) cc := bE
     have f9 := dU.grow3 (Inn.trans ir_ (Nat.le_refl _) cZ) (Inn.trans (Inn.trans ir_ (Nat.le_refl _) bR) (Nat.le_refl _) ck) aQ.n
     refine fk_ fd (Z0 (by kernel_rfl) (ZP)) ?_
     refine ZE ?_
     refine eq _ _ (g_' ?_)
     obtain ⟨dQ, fz⟩ := Zb fx
     refine w_' ((aa + 1)) (Zn (by have := dQ; omega)) (qs_ 1 (Za ?_))
     have bJ := (t_ (t_ (t_ av.n aH.n) aI.n) aF.n)
     obtain rfl := oi_ fz
     exact eo eO _ _ lt_ ⟨(w0.set z.toNat ((gt w0 z) ++ [((gt ((Z.take (gt O (z + 1)).toNat).drop (gt O z).toNat) aa).1, (gt ((Z.take (gt O (z + 1)).toNat).drop (gt O z).toNat) aa).2.1)])), (aa + 1), cc, cz, ha_, (fs_ ad.wf (fs_ ad.wf ((fs_ ad.wf ((fs_ ad.wf (fr_ ad.wf) av ir_).extR aH) aI (bD.fresh av.n)).extR aF) aQ (Inn.trans (Inn.trans ir_ (Nat.le_refl _) a4) bJ bR)) dG (Inn.trans (Inn.trans ir_ (Nat.le_refl _) a4) bJ cZ)), bE, (Inn.trans (Inn.trans ir_ (Nat.le_refl _) a4) bJ f9)⟩
    have fA := Zj aU a1
    refine ZA (Zm (Zm (ZK ?_)))
    obtain rfl := oi_ fA
    obtain rfl := Zw cz
    exact em _ _ ⟨aR, ha_, (fs_ ad.wf (fr_ ad.wf) av ir_), bI, (Inn.trans ir_ (Nat.le_refl _) a4)⟩
   obtain ⟨aB, cm, ah, eL, bj⟩ := hM
   obtain ⟨β, rfl⟩ := Zi cm
   clear cm
   refine eJ _ _ (sq_ fun eu => ?_)
   refine ZJ [0, 1, 2, 3, 4, 5, 6, 7, 8, 9, 10, 11, 12, 13, 14, 15] (by kernel_rfl) ?_
   refine es_ 1 ?_
   have eV := (t_ (t_ (t_ af.n ag.n) ai.n) Y.n)
   have dk := (aq.dj ca (bm.ltF.le eV))
   have bP := (br.frS ah dk)
   refine mr_ 23 4 (bh) bP (es_ 1 (mr_ 22 3 (aY) bP (es_ 1 ?_)))
   obtain ⟨ch, fB⟩ := Zb fo
   have dm := (al.djn (aW.lt.le aO))
   have b4 := (az.djn (aW.lt.le bl))
   have cJ := (t_ (t_ (t_ (t_ aj.n af.n) ag.n) ai.n) Y.n)
   have dp := (aq.dj b4 (aW.lt.le cJ))
   have bp := (((((((aW.ext aj).ext af).ext ag).ext ai).fr Y dm).fr ad b4).fr ah dp)
   refine bp.mx_ 22 am.1 ch (me_ 60 0 (.int .u32 (gt J z)) bp am.1 ch (es_ 1 (mr_ 22 3 (aY) bP (es_ 1 ?_))))
   refine d_w ((z + 1)) (k := .i64) (x := (z + 1)) (by kernel_rfl) (Zn (by have := bA; omega)) ?_
   obtain ⟨ci, fC⟩ := Zb fB
   refine bp.mx_ 22 aM.1 ci (me_ 60 0 (.int .u32 (gt J (z + 1))) bp aM.1 ci ?_)
   obtain ⟨be, fD⟩ := Zb fC
   have dq := (al.djn (aN.lt.le aO))
   have b5 := (az.djn (aN.lt.le bl))
   have b6 := (aq.dj b5 (aN.lt.le cJ))
   have fY := (((((((aN.ext aj).ext af).ext ag).ext ai).fr Y dq).fr ad b5).fr ah b6)
   obtain ⟨gO, fe, bH⟩ := Sq.cut (P := Tryz.prog) fY (t := 23) (by kernel_rfl) (lo := (some (.int .u32 (gt J z)))) (hi := (some (.int .u32 (gt J (z + 1))))) (l := (gt J z).toNat) (r := (gt J (z + 1)).toNat) (ZQ _ (by have := be; omega)) (ZQ _ (by have := be; omega)) (by have := be; omega) (by have := be; omega)
   obtain ⟨bW, cK, bZ, rfl⟩ := bH.form
   refine Zdv (.slice bW cK bZ) (by kernel_rfl) fe ?_
   refine bH.mn_ 23 (es_ 1 ?_)
   refine ZE ?_
   refine eu _ _ ?_
   obtain ⟨bM, ej, fE⟩ := bs_ fD
   refine Zv (fun α bw => ∃ (bb : Fp), Has α [(1, pt_ aP 0), (2, pt_ aE 0), (3, pt_ an 0), (16, i_ (ak.length : Int)), (17, i_ z)] /\ FrS aB aC bw /\ Nst (CR.sl Z1 2) bw (.slice ab ae ac) bM bb /\ Inn aB aC bb) (fun _ ev => ?_) (fun α bw hM => ?_)
   ·refine Zl ?_
    obtain ⟨cL, d4⟩ := Zr.1 ej
    refine Zy (fun n α bx => ∃ (aA : List (List (Int × Int))), ∃ (X : Int), ∃ (aS : Fp), ZD (fun zz_ => ZbI J V z zz_.1 zz_.2) n (aA, X) = some bM /\ Has α [(1, pt_ aP 0), (2, pt_ aE 0), (3, pt_ an 0), (4, i_ z), (16, i_ (ak.length : Int)), (17, i_ z), (70, .slice bW cK bZ), (71, i_ (((V.take (gt J (z + 1)).toNat).drop (gt J z).toNat).length : Int)), (72, i_ X)] /\ FrS aB aC bx /\ Nst (CR.sl Z1 2) bx (.slice ab ae ac) aA aS /\ Inn aB aC aS) cL ⟨bL, 0, aB, d4, ha_, (fr_ ah.wf), eL, ir_⟩ ?_
    rintro cL α bx ⟨aA, X, aS, dX, cq, aw, bk, a5⟩ gl ew
    obtain ⟨eW, gc, rfl, a2, cA⟩ := Zt dX
    obtain ⟨β, rfl⟩ := Zi cq
    clear cq
    replace a2 : ZbI J V z aA X = some gc := a2
    unfold ZbI at a2
    refine sn_ (sq_ fun ey => ?_)
    refine wc_ (X < (((V.take (gt J (z + 1)).toNat).drop (gt J z).toNat).length : Int)) (fun aV => ?_) fun aV => ?_
    ·have fF := Zf aV a2
     refine Zg (ey _ _ (sq_ fun ez => Zl (sq_ fun eA => g_' ?_)))
     obtain ⟨cj, fG⟩ := Zb fF
     have eX := (t_ (t_ (t_ (t_ (t_ aj.n af.n) ag.n) ai.n) Y.n) ad.n)
     have dr := (bj.dj b6 (aN.lt.le eX))
     have cW := (bH.fr aw dr)
     refine cW.ix_ 23 cj aV (le_ 62 0 (.agg #[.int .u32 ((gt ((V.take (gt J (z + 1)).toNat).drop (gt J z).toNat) X).1), .int .u64 ((gt ((V.take (gt J (z + 1)).toNat).drop (gt J z).toNat) X).2.1), .int .u32 ((gt ((V.take (gt J (z + 1)).toNat).drop (gt J z).toNat) X).2.2.1), .int .u32 ((gt ((V.take (gt J (z + 1)).toNat).drop (gt J z).toNat) X).2.2.2)]) cW cj aV ?_)
     refine rk_ aw.wf [.int .u32 0, .int .u64 0, .int .u32 0, .int .u32 0] fun bX gh aJ bg cQ => ?_
     obtain ⟨a9, ff, aG, bn⟩ := ra_ 62 0 aJ.wf cQ [.int .u32 ((gt ((V.take (gt J (z + 1)).toNat).drop (gt J z).toNat) X).1), .int .u64 ((gt ((V.take (gt J (z + 1)).toNat).drop (gt J z).toNat) X).2.1), .int .u32 ((gt ((V.take (gt J (z + 1)).toNat).drop (gt J z).toNat) X).2.2.1), .int .u32 ((gt ((V.take (gt J (z + 1)).toNat).drop (gt J z).toNat) X).2.2.2)] [.int .u32 ((gt ((V.take (gt J (z + 1)).toNat).drop (gt J z).toNat) X).1), .int .u64 ((gt ((V.take (gt J (z + 1)).toNat).drop (gt J z).toNat) X).2.1), .int .u32 ((gt ((V.take (gt J (z + 1)).toNat).drop (gt J z).toNat) X).2.2.1), .int .u32 ((gt ((V.take (gt J (z + 1)).toNat).drop (gt J z).toNat) X).2.2.2)]
     refine ek_ ff (Za (eA _ _ ?_))
     refine ZJ [0, 1, 2, 3, 4, 5, 6, 7, 8, 9, 10, 11, 12, 13, 14, 15, 16, 17] (by kernel_rfl) ?_
     refine es_ 1 ?_
     have b7 := (al.djn ap.lt)
     have b8 := (aq.dj (Dj.symm b7) (au.ltF.le Y.n))
     have eY := (t_ Y.n ad.n)
     have b9 := (bj.dj b8 (au.ltF.le eY))
     have eZ := (t_ (t_ (t_ Y.n ad.n) ah.n) aw.n)
     have dt := (bg.djn (au.ltF.le eZ))
     have bQ := (((((bN.frS ad (Dj.symm b7)).frS ah b8).frS aw b9).ext aJ).frS aG dt)
     refine ZcR (.slice ab ae ac) (x := aL_ 104 (pt_ an 0) a9) (by kernel_rfl) (bQ.l_) ?_
     refine es_ 1 ?_
     refine ZcR (.int .u32 ((gt ((V.take (gt J (z + 1)).toNat).drop (gt J z).toNat) X).1)) (x := aL_ 60 (pt_ bX 0) a9) (by kernel_rfl) (bn.l_) ?_
     refine es_ 1 (mr_ 104 0 (.slice ab ae ac) bQ (es_ 1 (mr_ 60 0 (.int .u32 ((gt ((V.take (gt J (z + 1)).toNat).drop (gt J z).toNat) X).1)) bn ?_)))
     obtain ⟨ao, fH⟩ := Zb fG
     have bq := ((bk.ext aJ).fr aG (bg.djn bk.lt))
     refine m_' (elp (.slice ab ae ac) 1 ((gt ((V.take (gt J (z + 1)).toNat).drop (gt J z).toNat) X).1).toNat 0) (ZB Tryz.prog 104 (.slice ab ae ac) (.int .u32 ((gt ((V.take (gt J (z + 1)).toNat).drop (gt J z).toNat) X).1))) (bq.idxb (by kernel_rfl) ao.1 ao.2) ?_
     obtain ⟨gu, gA, d0, ee, d2, ea⟩ := bq.kid ao.1 ao.2
     obtain ⟨fT, rfl, d8⟩ := Zat d0
     have cF : KdS Z1 2 a9 fT (gt aA ((gt ((V.take (gt J (z + 1)).toNat).drop (gt J z).toNat) X).1)) aS (.slice ab ae ac) 1 ((gt ((V.take (gt J (z + 1)).toNat).drop (gt J z).toNat) X).1).toNat 0 := ⟨d8.sq.up ee bq.lt, ea 0 _ rfl (by decide)⟩
     obtain ⟨c8, e0, db, rfl⟩ := cF.sq.form
     refine m_' (.slice c8 e0 db) (aL_ 192 (elp (.slice ab ae ac) 1 ((gt ((V.take (gt J (z + 1)).toNat).drop (gt J z).toNat) X).1).toNat 0) a9) (d2 _ _ _ _ (by kernel_rfl)) (es_ 2 (mr_ 35 1 (.int .u64 ((gt ((V.take (gt J (z + 1)).toNat).drop (gt J z).toNat) X).2.1)) bn (es_ 1 ?_)))
     refine Zjj (enc := Z1) (sz := 2) aG.wf [(z, (gt ((V.take (gt J (z + 1)).toNat).drop (gt J z).toNat) X).2.1)] 1 (by decide) (fun _ _ => rfl) (fun _ _ => rfl) rfl (by kernel_rfl) fun gP gB bT ax gH cx => ?_
     obtain ⟨go, gJ, gr, rfl⟩ := cx.form
     have fZ := (bq.ext ax)
     have f0 := (cF.ext ax)
     obtain ⟨gC, gD, cr, d9, b_, ef, eg⟩ := Nst.borrow Zgc fZ ao.1 ao.2 f0 rfl
     have c0 := Inn.sub' (H := bT) ef
     have bt := Inn.sub' (H := bT) eg
     obtain ⟨dR, fI⟩ := Zb fH
     obtain ⟨gQ, bU, gE, fg, aK, cy, cl⟩ := Ow.append (P := Tryz.prog) 16 ax.wf d9 cx.sq (fun _ _ => rfl) (at_ := #[192, 192]) rfl rfl (by kernel_rfl) (by kernel_rfl) (by decide) (by have := dR; first | omega | (simp only [List.length_cons, List.length_nil] at this ⊢; omega) | (simp at this ⊢; omega))
     obtain ⟨c9, e1, dc, rfl⟩ := cy.form
     have e2 := (t_ (t_ Y.n ad.n) ah.n)
     have du := (a5.dj b9 (au.ltF.le e2))
     have e3 := (t_ (t_ (t_ (t_ (t_ (t_ Y.n ad.n) ah.n) aw.n) aJ.n) aG.n) ax.n)
     have dv := (bt.dj du (au.ltF.le e3))
     have f1 := ((bQ.ext ax).frS aK dv)
     have dw := (bg.djn bk.lt)
     have e4 := (t_ aG.n ax.n)
     have dx := (bt.dj (Dj.symm dw) (cQ.ltF.le e4))
     have f2 := ((bn.ext ax).frS aK dx)
     refine Zjv (.slice c9 e1 dc) (by kernel_rfl) (fg) (Zbb (y := aL_ 60 (pt_ bX 0) bU) (by kernel_rfl) (f2.l_) (Zbb (y := aL_ 104 (pt_ an 0) bU) (by kernel_rfl) (f1.l_) (ZP))) ?_
     have cX := (cr.fr aK (Dj.symm b_))
     refine m_' (elp (.slice ab ae ac) 1 ((gt ((V.take (gt J (z + 1)).toNat).drop (gt J z).toNat) X).1).toNat 0) (ZB Tryz.prog 104 (.slice ab ae ac) (.int .u32 ((gt ((V.take (gt J (z + 1)).toNat).drop (gt J z).toNat) X).1))) (cX.idxb (by kernel_rfl) ao.1 ao.2) ?_
     have dy := (cl.dj (Dj.symm b_) cr.lt)
     obtain ⟨c4, cd, fh, dI, bF, dV⟩ := Hol.close (P := Tryz.prog) (t := 192) aK.wf cX cy (Dj.symm dy) ao.1 ao.2 (by kernel_rfl) (by kernel_rfl) (by kernel_rfl)
     have bF : Nst (CR.sl Z1 2) c4 (.slice ab ae ac) (aA.set ((gt ((V.take (gt J (z + 1)).toNat).drop (gt J z).toNat) X).1).toNat ((gt aA ((gt ((V.take (gt J (z + 1)).toNat).drop (gt J z).toNat) X).1)) ++ [(z, (gt ((V.take (gt J (z + 1)).toNat).drop (gt J z).toNat) X).2.1)])) cd := bF
     have f_ := dV.grow3 (Inn.trans ir_ (Nat.le_refl _) c0) (Inn.trans (Inn.trans ir_ (Nat.le_refl _) bt) (Nat.le_refl _) cl) aK.n
     refine fk_ fh (Z0 (by kernel_rfl) (Z0 (by kernel_rfl) (ZP))) ?_
     refine ZE ?_
     refine ez _ _ (g_' ?_)
     obtain ⟨dS, fJ⟩ := Zb fI
     refine w_' ((X + 1)) (Zn (by have := dS; omega)) (qs_ 1 (Za ?_))
     have bK := (t_ (t_ (t_ aw.n aJ.n) aG.n) ax.n)
     obtain rfl := oi_ fJ
     exact ew eW _ _ lt_ ⟨(aA.set ((gt ((V.take (gt J (z + 1)).toNat).drop (gt J z).toNat) X).1).toNat ((gt aA ((gt ((V.take (gt J (z + 1)).toNat).drop (gt J z).toNat) X).1)) ++ [(z, (gt ((V.take (gt J (z + 1)).toNat).drop (gt J z).toNat) X).2.1)])), (X + 1), cd, cA, ha_, (fs_ ah.wf (fs_ ah.wf ((fs_ ah.wf ((fs_ ah.wf (fr_ ah.wf) aw ir_).extR aJ) aG (bg.fresh aw.n)).extR ax) aK (Inn.trans (Inn.trans ir_ (Nat.le_refl _) a5) bK bt)) dI (Inn.trans (Inn.trans ir_ (Nat.le_refl _) a5) bK c0)), bF, (Inn.trans (Inn.trans ir_ (Nat.le_refl _) a5) bK f_)⟩
    have fK := Zj aV a2
    refine ZA (Zm (Zm (ZK ?_)))
    obtain rfl := oi_ fK
    obtain rfl := Zw cA
    exact ev _ _ ⟨aS, ha_, (fs_ ah.wf (fr_ ah.wf) aw ir_), bk, (Inn.trans ir_ (Nat.le_refl _) a5)⟩
   obtain ⟨bb, cp, dH, eM, el⟩ := hM
   obtain ⟨β, rfl⟩ := Zi cp
   clear cp
   refine eI _ _ (g_' (w_' ((z + 1)) (Zn (by have := bA; omega)) (qs_ 1 (Za ?_))))
   have e5 := (t_ ad.n ah.n)
   obtain rfl := oi_ fE
   exact eG e_ _ _ lt_ ⟨(z + 1), bM, bb, cB, ha_, (fs_ Y.wf (fs_ Y.wf (fs_ Y.wf (fr_ Y.wf) ad ir_) ah (Inn.trans ir_ (Nat.le_refl _) aq)) dH (Inn.trans (Inn.trans ir_ (Nat.le_refl _) aq) ad.n bj)), eM, (Inn.trans (Inn.trans (Inn.trans ir_ (Nat.le_refl _) aq) ad.n bj) e5 el)⟩
  have fL := Zj bB a3
  refine ZA (Zm (Zm (ZK ?_)))
  obtain rfl := oi_ fL
  obtain rfl := Zw cB
  exact eF _ _ ⟨ay, ha_, (fs_ Y.wf (fr_ Y.wf) ad ir_), cG, (Inn.trans ir_ (Nat.le_refl _) aq)⟩
 obtain ⟨bc, ct, ba, eN, cD⟩ := hM
 obtain ⟨β, rfl⟩ := Zi ct
 clear ct
 refine eC _ _ (sq_ fun eB => g_' ?_)
 have dz := (al.djn ap.lt)
 have f3 := (bN.frS ba (Dj.symm dz))
 refine lr_ 106 0 (.agg #[.slice ab ae ac]) f3 ?_
 have dA := (al.djn (a6.ltF.le ag.n))
 have f4 := ((((a6.ext ag).ext ai).frS Y dA).frS ba (az.djn a6.ltF))
 obtain ⟨c5, fj, cb, fM⟩ := ra_ 106 0 ba.wf f4 [.slice ab ae ac] [.slice ab ae ac]
 refine ek_ fj (Za (eB _ _ ?_))
 refine Zp ?_
 refine ZX (vs := [.agg #[.slice ab ae ac]]) (ZC (Eq.trans (b := aL_ 106 (pt_ aE 0) c5) (by kernel_rfl) (fM.l_)) (rfl)) ?_
 have cM := (t_ aj.n af.n)
 have e6 := (t_ (t_ ag.n ai.n) Y.n)
 have dB := (cD.dj (az.djn a6.ltF) (a6.ltF.le e6))
 have f5 := (eN.fr cb (Dj.symm dB))
 have e8 := (t_ (t_ (t_ (t_ aj.n af.n) ag.n) ai.n) Y.n)
 obtain rfl := oi_ fN
 exact ⟨(.slice ab ae ac), bc, rfl, (fs_ a8 (fs_ a8 (fs_ a8 (((((f0_ a8).extR aj).extR af).extR ag).extR ai) Y (al.fresh aO)) ba (az.fresh cM)) cb (dT.fresh aj.n)), f5, (Inn.trans (az.fresh cM) e8 cD)⟩
end Go.Vd

/-! (KWt8) -/

set_option maxRecDepth 100000
set_option maxHeartbeats 4000000
set_option linter.unusedVariables false
namespace Go.Vd
open Go.Proofs
attribute [local irreducible] Zs Zu aWp
theorem Zgf {H : AH} {ap : Value} {bQ : Fp} {out : List (List (Int × Int))} {ak : Int} {u : Int} {r : List (Int)}
    (az : WF H) (aB : Nst (CR.sl Z1 2) H ap out bQ) (b2 : Zco out ak u = some r) :
    ACalls Tryz.prog 74 #[.agg #[ap], i_ ak, i_ u] H fun v H' => ∃ (cu : Value) (bP : Fp), v = cu /\ FrS [] H H' /\ Ow (Zh .u64) 1 H' cu r bP /\ Inn [] H bP := by
 refine ab_ Tryz.func74 ?_
 unfold Zco at b2
 refine sq_ fun d0 => g_' ?_
 refine Z3 az [ap] (Zd (aB.one1) (ZN)) (by kernel_rfl) fun aK fL ae fY au => ?_
 refine qs_ 1 (Za (d0 _ _ (sq_ fun dK => g_' (qs_ 1 (lr_ 104 0 (ap) au ?_)))))
 have cv := (aB.ext ae)
 refine cv.ln_ 104 ?_
 obtain ⟨bR, eN⟩ := Zb b2
 refine Zej (t := 48) (m := 8) (l := (out.length : Int)) (c := (out.length : Int)) (enc := (Zh .u64)) (sz := 1) ae.wf (0 : Int) (by kernel_rfl) (by decide) bR.1 (Int.le_refl _) (by omega) (by have := bR; omega) (by kernel_rfl) fun f6 al bc aa ax ab => ?_
 obtain ⟨ac, af, ad, rfl⟩ := ab.form
 have ab : Ow (Zh .u64) 1 bc (.slice ac af ad) (List.replicate out.length (0 : Int)) al := ab
 refine qs_ 1 (Za (dK _ _ (sq_ fun dQ => sq_ fun dR => g_' (qs_ 1 (ab.sq.ln_ 48 (qs_ 1 (Za (dR _ _ ?_))))))))
 obtain ⟨bx, dB, eW⟩ := bs_ eN
 refine Zv (fun α bd => Has α [(1, i_ ak), (2, i_ u), (3, pt_ aK 0), (7, .slice ac af ad)] /\ FrS al bc bd /\ Ow (Zh .u64) 1 bd (.slice ac af ad) bx al) (fun _ dW => ?_) (fun α bd hM => ?_)
 ·refine Zl ?_
  obtain ⟨cn, du⟩ := Zr.1 dB
  refine Zy (fun n α be => ∃ (ay : Int), ∃ (aX : List (Int)), ZD (fun zz_ => ZbD out zz_.1 zz_.2) n (ay, aX) = some bx /\ Has α [(1, i_ ak), (2, i_ u), (3, pt_ aK 0), (7, .slice ac af ad), (21, i_ ((List.replicate out.length (0 : Int)).length : Int)), (22, i_ ay)] /\ FrS al bc be /\ Ow (Zh .u64) 1 be (.slice ac af ad) aX al) cn ⟨0, (List.replicate out.length (0 : Int)), du, ha_, (fr_ aa.wf), ab⟩ ?_
  rintro cn α be ⟨ay, aX, di, bZ, bk, bv⟩ fP dX
  obtain ⟨eF, fF, rfl, a2, b1⟩ := Zt di
  obtain ⟨β, rfl⟩ := Zi bZ
  clear bZ
  replace a2 : ZbD out ay aX = some fF := a2
  unfold ZbD at a2
  refine sn_ (sq_ fun dY => ?_)
  refine wc_ (ay < ((List.replicate out.length (0 : Int)).length : Int)) (fun bp => ?_) fun bp => ?_
  ·have fa := Zf bp a2
   refine Zg (dY _ _ (sq_ fun dZ => Zl (sn_ (g_' (qs_ 2 ?_)))))
   obtain ⟨a9, fb⟩ := Zb fa
   refine bv.sq.ix_ 48 a9.1 a9.2 ?_
   obtain ⟨fJ, eI, c8, dq⟩ := Ow.store (P := Tryz.prog) (t := 35) (off := 0) bk.wf bv a9.1 a9.2 (.int .u64 18446744073709551615) [.int .u64 18446744073709551615] (by kernel_rfl) (by kernel_rfl) rfl 18446744073709551615 (Nat.le_of_ble_eq_true rfl) (by kernel_rfl)
   refine ek_ eI (Za (dZ _ _ (g_' ?_)))
   obtain ⟨df, fc⟩ := Zb fb
   refine w_' ((ay + 1)) (Zn (by have := df; omega)) (qs_ 1 (Za ?_))
   obtain rfl := oi_ fc
   exact dX eF _ _ lt_ ⟨(ay + 1), (aX.set ay.toNat 18446744073709551615), b1, ha_, (fs_ aa.wf (fs_ aa.wf (fr_ aa.wf) bk ir_) c8 ir_), dq⟩
  have fd := Zj bp a2
  refine ZA (Zm (Zm (ZK ?_)))
  obtain rfl := oi_ fd
  obtain rfl := Zw b1
  exact dW _ _ ⟨ha_, (fs_ aa.wf (fr_ aa.wf) bk ir_), bv⟩
 obtain ⟨bY, X, ec⟩ := hM
 obtain ⟨β, rfl⟩ := Zi bY
 clear bY
 refine dQ _ _ (sq_ fun d1 => g_' (qs_ 1 ?_))
 have cA := ((au.ext aa).frS X (ax.djn au.ltF))
 refine lr_ 104 0 (ap) cA ?_
 have a5 := (ax.djn (aB.lt.le ae.n))
 have cB := ((cv.ext aa).fr X a5)
 refine cB.ln_ 104 ?_
 obtain ⟨fB, dF, ct⟩ := bs_ eW
 rcases fB with gd | gf
 ·exact (ZfT (ZgE ct)).elim
 have fe := ZgF ct
 refine ck_ (ZgI X.wf dF) ?_
 rintro _ fK ⟨f9, aO, ao, rfl, Z, aD, aT, aQ, aR, bj⟩
 obtain ⟨aJ, aV, aL, rfl⟩ := aD.form
 refine qs_ 5 (Za (d1 _ _ (sq_ fun d2 => sn_ ?_)))
 refine wb_ false (fun h => by cases h) fun _ => ?_
 refine Zg (d2 _ _ (sq_ fun d3 => g_' (qs_ 2 ?_)))
 obtain ⟨a_, ff⟩ := Zb fe
 have cC := (ec.fr Z dn_)
 refine cC.sq.ix_ 48 a_.1 a_.2 ?_
 obtain ⟨fM, eJ, O, dp⟩ := Ow.store (P := Tryz.prog) (t := 35) (off := 0) Z.wf cC a_.1 a_.2 (.int .u64 0) [.int .u64 0] (by kernel_rfl) (by kernel_rfl) rfl 0 (Nat.le_of_ble_eq_true rfl) (by kernel_rfl)
 refine ek_ eJ (Za (d3 _ _ (sq_ fun dJ => g_' (qs_ 2 ?_))))
 obtain ⟨c_, eK⟩ := Zb ff
 refine s_w (u) (k := .u32) (x := u) (by kernel_rfl) (ZcX (by have := c_; omega)) ?_
 have aM := (aQ.djn (ab.lt.le X.n))
 have fh := (aD.fr O (Dj.symm aM))
 have aN := (aR.djn (ab.lt.le X.n))
 have fj := (aT.frS O (Dj.symm aN))
 obtain ⟨cD, dC, eL⟩ := bs_ eK
 refine ck_ (Zc7 O.wf (Ow.nil (enc := Zx) (sz := 2) (by decide)) fh fj dn_ dn_ (Dj.symm bj) dC) ?_
 rintro f_ bD ⟨_, fV, f5, bl, rfl, Y, f2, d4, b8, d5, fZ, aq, fT⟩
 obtain ⟨cH, ef, cM, rfl⟩ := b8.form
 refine Za (dJ _ _ ?_)
 obtain ⟨fC, dz, eM⟩ := bs_ eL
 refine Zv (fun α cF => False) (fun _ f1 => ?_) (fun α cF hM => ?_)
 ·refine Zl ?_
  obtain ⟨cd, dr⟩ := Zr.1 dz
  have fk := (dp.fr Y (Dj.app aN (Dj.app dn_ aM)))
  refine Zy (fun n α aF => ∃ (aY : List (Int)), ∃ (queue7 : List (Int × Int)), ∃ (queue8 : List (Int)), ∃ (bz : Value), ∃ (aw : Fp), ZD (fun zz_ => ZbG out ak zz_.1 zz_.2.1 zz_.2.2) n (aY, queue7, queue8) = some fC /\ Has α [(1, i_ ak), (3, pt_ aK 0), (7, .slice ac af ad), (9, pt_ ao 0)] /\ FrS ([ao] ++ (bl ++ (al ++ aO))) bD aF /\ Ow (Zh .u64) 1 aF (.slice ac af ad) aY al /\ Ow Zx 2 aF bz queue7 aw /\ Ow (Zh .i64) 1 aF (.slice aJ aV aL) queue8 aO /\ Row aF ao [bz, .slice aJ aV aL] /\ Inn bl bD aw) cd ⟨(bx.set u.toNat 0), cD.2.2, cD.2.1, (.slice cH ef cM), bl, dr, ha_, (fr_ Y.wf), fk, b8, d4, d5, ir_⟩ ?_
  rintro cd α aF ⟨aY, queue7, queue8, bz, aw, dg, bU, ag, b9, b_, d6, d7, an⟩ fN dL
  obtain ⟨eg, fD, rfl, ba, b0⟩ := Zt dg
  obtain ⟨β, rfl⟩ := Zi bU
  clear bU
  replace ba : ZbG out ak aY queue7 queue8 = some fD := ba
  unfold ZbG at ba
  obtain ⟨fQ, f4, fR, rfl⟩ := b_.form
  refine Zl (sq_ fun dM => g_' (qs_ 1 ?_))
  have cQ := (aq.djn (aT.ltF.le O.n))
  have ce := (t_ O.n Y.n)
  have bH := (an.dj cQ (aT.ltF.le ce))
  have cR := (aq.djn (aD.lt.le O.n))
  have bI := (an.dj cR (aD.lt.le ce))
  obtain ⟨z, dD, cq⟩ := bs_ ba
  refine ck_ (ZeI ag.wf b_ d6 d7 (Dj.symm bj) (Dj.symm bH) (Dj.symm bI) dD) ?_
  rintro _ aG ⟨f7, rfl, V, d8, ca, d9⟩
  obtain ⟨cI, eh, cN, rfl⟩ := ca.form
  refine qs_ 7 (Za (dM _ _ (sq_ fun dN => sn_ ?_)))
  refine wb_ ((!z.2.2.1)) (fun bm => ?_) fun bm => ?_
  ·have eO := Zf bm cq
   refine sn_ ?_
   refine Zp (Zk (ZI (Zk (ZI (Zk ?_)))))
   obtain ⟨gb, b3, dG⟩ := map_some eO
   subst dG
   obtain rfl := Zw b0
   have dw := elim_inl eM
   rw [dw] at b3
   refine br_ [.slice ac af ad] ?_
   have aU := (t_ (t_ ae.n aa.n) X.n)
   have cf := (t_ (t_ (t_ (t_ ae.n aa.n) X.n) Z.n) O.n)
   have ej := (t_ (t_ (t_ (t_ (t_ ae.n aa.n) X.n) Z.n) O.n) Y.n)
   have ek := (t_ (t_ X.n Z.n) O.n)
   have cS := (aq.djn (ab.lt.le ek))
   have el := (t_ (t_ (t_ X.n Z.n) O.n) Y.n)
   have cT := (an.dj cS (ab.lt.le el))
   have fm := (b9.fr V (Dj.app aN (Dj.app cT aM)))
   obtain rfl := oi_ b3
   exact ⟨(.slice ac af ad), al, rfl, (fs_ az (fs_ az (fs_ az (fs_ az (fs_ az (fs_ az (((f0_ az).extR ae).extR aa) X (ax.fresh ae.n)) Z in_) O (ax.fresh ae.n)) Y (Inn.app (aR.fresh aU) (Inn.app in_ (aQ.fresh aU)))) ag (Inn.app (aR.fresh aU) (Inn.app (aq.fresh cf) (Inn.app (ax.fresh ae.n) (aQ.fresh aU))))) V (Inn.app (aR.fresh aU) (Inn.app (Inn.trans (aq.fresh cf) ej an) (aQ.fresh aU)))), fm, (ax.fresh ae.n)⟩
  have eP := ZL bm cq
  refine Zg (dN _ _ (sq_ fun dO => g_' (qs_ 1 ?_)))
  have cg := (t_ aa.n X.n)
  have bh := (aQ.djn (au.ltF.le cg))
  have bi := (aR.djn (au.ltF.le cg))
  have em := (t_ (t_ (t_ aa.n X.n) Z.n) O.n)
  have bJ := (aq.djn (au.ltF.le em))
  have eo := (t_ (t_ (t_ (t_ aa.n X.n) Z.n) O.n) Y.n)
  have cU := (an.dj bJ (au.ltF.le eo))
  have fo := (((((cA.frS Z dn_).frS O (ax.djn au.ltF)).frS Y (Dj.app bi (Dj.app dn_ bh))).frS ag (Dj.app bi (Dj.app bJ (Dj.app (ax.djn au.ltF) bh)))).frS V (Dj.app bi (Dj.app cU bh)))
  refine lr_ 104 0 (ap) fo (qs_ 1 ?_)
  obtain ⟨a7, eQ⟩ := Zb eP
  have ch := (t_ (t_ ae.n aa.n) X.n)
  have a3 := (aQ.djn (aB.lt.le ch))
  have a4 := (aR.djn (aB.lt.le ch))
  have ep := (t_ (t_ (t_ (t_ ae.n aa.n) X.n) Z.n) O.n)
  have bK := (aq.djn (aB.lt.le ep))
  have eq := (t_ (t_ (t_ (t_ (t_ ae.n aa.n) X.n) Z.n) O.n) Y.n)
  have bL := (an.dj bK (aB.lt.le eq))
  have bC := (((((cB.fr Z dn_).fr O a5).fr Y (Dj.app a4 (Dj.app dn_ a3))).fr ag (Dj.app a4 (Dj.app bK (Dj.app a5 a3)))).fr V (Dj.app a4 (Dj.app bL a3)))
  refine l_' (elp ap 1 z.1.toNat 0) (ZB Tryz.prog 104 ap (.int .u32 z.1)) (bC.idxb (by kernel_rfl) a7.1 a7.2) ?_
  obtain ⟨fS, fW, dk, dy, dm, dx⟩ := bC.kid a7.1 a7.2
  obtain ⟨fg, rfl, dv⟩ := Zat dk
  have bs : KdS Z1 2 aG fg (gt out z.1) bQ ap 1 z.1.toNat 0 := ⟨dv.sq.up dy bC.lt, dx 0 _ rfl (by decide)⟩
  obtain ⟨bf, bw, bg, rfl⟩ := bs.sq.form
  refine l_' (.slice bf bw bg) (aL_ 192 (elp ap 1 z.1.toNat 0) aG) (dm _ _ _ _ (by kernel_rfl)) (bs.sq.ln_ 192 (qs_ 1 (Za (dO _ _ ?_))))
  obtain ⟨aE, dA, eR⟩ := bs_ eQ
  refine Zv (fun α aH => ∃ (bA : Value) (a6 : Fp), Has α [(1, i_ ak), (3, pt_ aK 0), (7, .slice ac af ad), (9, pt_ ao 0)] /\ FrS ([ao] ++ (aw ++ (al ++ aO))) aG aH /\ Ow (Zh .u64) 1 aH (.slice ac af ad) aE.1 al /\ Ow Zx 2 aH bA aE.2.1 a6 /\ Ow (Zh .i64) 1 aH (.slice aJ aV aL) aE.2.2 aO /\ Row aH ao [bA, .slice aJ aV aL] /\ Inn aw aG a6) (fun _ dP => ?_) (fun α aH hM => ?_)
  ·refine Zl ?_
   obtain ⟨ci, dt⟩ := Zr.1 dA
   have es := (t_ (t_ X.n Z.n) O.n)
   have cV := (aq.djn (ab.lt.le es))
   have et := (t_ (t_ (t_ X.n Z.n) O.n) Y.n)
   have cW := (an.dj cV (ab.lt.le et))
   have fs := (b9.fr V (Dj.app aN (Dj.app cW aM)))
   refine Zy (fun n α aI => ∃ (J : Int), ∃ (av : List (Int)), ∃ (queue4 : List (Int × Int)), ∃ (queue5 : List (Int)), ∃ (bB : Value), ∃ (aZ : Fp), ZD (fun zz_ => ZaZ out ak z zz_.1 zz_.2.1 zz_.2.2.1 zz_.2.2.2) n (J, av, queue4, queue5) = some aE /\ Has α [(1, i_ ak), (3, pt_ aK 0), (7, .slice ac af ad), (9, pt_ ao 0), (12, .int .u64 z.2.1), (59, .slice bf bw bg), (60, i_ ((gt out z.1).length : Int)), (61, i_ J)] /\ FrS ([ao] ++ (aw ++ (al ++ aO))) aG aI /\ Ow (Zh .u64) 1 aI (.slice ac af ad) av al /\ Ow Zx 2 aI bB queue4 aZ /\ Ow (Zh .i64) 1 aI (.slice aJ aV aL) queue5 aO /\ Row aI ao [bB, .slice aJ aV aL] /\ Inn aw aG aZ) ci ⟨0, aY, z.2.2.2.2, z.2.2.2.1, (.slice cI eh cN), aw, dt, ha_, (fr_ V.wf), fs, ca, d8, d9, ir_⟩ ?_
   rintro ci α aI ⟨J, av, queue4, queue5, bB, aZ, dh, bW, ah, bb, aS, bt, bu, aC⟩ fO b5
   obtain ⟨cj, fE, rfl, a1, br⟩ := Zt dh
   obtain ⟨β, rfl⟩ := Zi bW
   clear bW
   replace a1 : ZaZ out ak z J av queue4 queue5 = some fE := a1
   unfold ZaZ at a1
   obtain ⟨bF, ck, bG, rfl⟩ := aS.form
   refine sn_ (sq_ fun dS => ?_)
   refine wc_ (J < ((gt out z.1).length : Int)) (fun a0 => ?_) fun a0 => ?_
   ·have eS := Zf a0 a1
    refine Zg (dS _ _ (sq_ fun b6 => Zl (sq_ fun dT => g_' ?_)))
    obtain ⟨bS, eT⟩ := Zb eS
    have cw := (bs.fr ah (Dj.app a4 (Dj.app bL (Dj.app a5 a3))))
    refine cw.sq.ix_ 192 bS a0 (le_ 194 0 (.agg #[i_ ((gt (gt out z.1) J).1), .int .u64 ((gt (gt out z.1) J).2)]) cw.sq bS a0 ?_)
    refine rk_ ah.wf [i_ 0, .int .u64 0] fun cL fG ai am eU => ?_
    obtain ⟨cG, eG, aj, aW⟩ := ra_ 194 0 ai.wf eU [i_ ((gt (gt out z.1) J).1), .int .u64 ((gt (gt out z.1) J).2)] [i_ ((gt (gt out z.1) J).1), .int .u64 ((gt (gt out z.1) J).2)]
    refine ek_ eG (Za (dT _ _ (sq_ fun dU => ?_)))
    obtain ⟨cp, b4, cr⟩ := bs_ eT
    refine Zv (fun α bE => Has α [(1, i_ ak), (3, pt_ aK 0), (7, .slice ac af ad), (9, pt_ ao 0), (12, .int .u64 z.2.1), (15, pt_ cL 0), (59, .slice bf bw bg), (60, i_ ((gt out z.1).length : Int)), (61, i_ J), (80, .bool cp)] /\ cG = bE) (fun _ b7 => ?_) (fun α bE hM => ?_)
    ·refine ZJ [0, 1, 2, 3, 4, 5, 6, 7, 8, 9, 10, 11, 12, 13, 14, 15] (by kernel_rfl) ?_
     refine es_ 1 (mr_ 3 0 (i_ ((gt (gt out z.1) J).1)) aW (es_ 1 ?_))
     refine db_ (((gt (gt out z.1) J).1) > ak) (fun bn => ?_) fun bn => ?_
     ·have eV := Zf bn b4
      refine es_ 3 (mr_ 35 1 (.int .u64 ((gt (gt out z.1) J).2)) aW ?_)
      obtain ⟨da, eX⟩ := Zb eV
      refine d_w ((z.2.1 + ((gt (gt out z.1) J).2))) (k := .u64) (x := (z.2.1 + ((gt (gt out z.1) J).2))) (by kernel_rfl) (Zag da) ?_
      refine es_ 2 (mr_ 3 0 (i_ ((gt (gt out z.1) J).1)) aW ?_)
      obtain ⟨a8, eY⟩ := Zb eX
      have eu := (t_ (t_ (t_ (t_ (t_ (t_ X.n Z.n) O.n) Y.n) ag.n) V.n) ah.n)
      have cX := (am.djn (ab.lt.le eu))
      have cx := ((bb.ext ai).fr aj cX)
      refine cx.sq.mx_ 48 a8.1 a8.2 (me_ 35 0 (.int .u64 (gt av ((gt (gt out z.1) J).1))) cx.sq a8.1 a8.2 (es_ 2 ?_))
      refine ZE ?_
      obtain rfl := oi_ eY
      exact b7 _ _ ⟨ha_, rfl⟩
     have eZ := Zj bn b4
     refine es_ 12 ?_
     refine ZE ?_
     obtain rfl := oi_ eZ
     exact b7 _ _ ⟨ha_, rfl⟩
    obtain ⟨bX, rfl⟩ := hM
    obtain ⟨β, rfl⟩ := Zi bX
    clear bX
    refine dU _ _ ?_
    refine wb_ (cp) (fun bo => ?_) fun bo => ?_
    ·have e0 := Zf bo cr
     refine sq_ fun dV => g_' (qs_ 2 (lr_ 3 0 (i_ ((gt (gt out z.1) J).1)) aW (qs_ 2 (lr_ 35 1 (.int .u64 ((gt (gt out z.1) J).2)) aW ?_))))
     obtain ⟨db, e1⟩ := Zb e0
     refine s_w ((z.2.1 + ((gt (gt out z.1) J).2))) (k := .u64) (x := (z.2.1 + ((gt (gt out z.1) J).2))) (by kernel_rfl) (Zag db) ?_
     obtain ⟨aP, e2⟩ := Zb e1
     have ev := (t_ (t_ (t_ (t_ (t_ (t_ X.n Z.n) O.n) Y.n) ag.n) V.n) ah.n)
     have bM := (am.djn (ab.lt.le ev))
     have cy := ((bb.ext ai).fr aj bM)
     refine cy.sq.ix_ 48 aP.1 aP.2 ?_
     obtain ⟨fH, eH, aA, bq⟩ := Ow.store (P := Tryz.prog) (t := 35) (off := 0) aj.wf cy aP.1 aP.2 (.int .u64 (z.2.1 + ((gt (gt out z.1) J).2))) [.int .u64 (z.2.1 + ((gt (gt out z.1) J).2))] (by kernel_rfl) (by kernel_rfl) rfl (z.2.1 + ((gt (gt out z.1) J).2)) (Nat.le_of_ble_eq_true rfl) (by kernel_rfl)
     refine ek_ eH (Za (dV _ _ ?_))
     refine ZJ [0, 1, 2, 3, 4, 5, 6, 7, 8, 9] (by kernel_rfl) ?_
     refine es_ 2 ?_
     have cz := (aW.frS aA (Dj.symm bM))
     refine mr_ 3 0 (i_ ((gt (gt out z.1) J).1)) cz ?_
     obtain ⟨dc, e3⟩ := Zb e2
     refine d_w ((gt (gt out z.1) J).1) (k := .u32) (x := (gt (gt out z.1) J).1) (by kernel_rfl) (ZcX (by have := dc; omega)) ?_
     refine es_ 2 (mr_ 3 0 (i_ ((gt (gt out z.1) J).1)) cz ?_)
     obtain ⟨bT, e4⟩ := Zb e3
     refine bq.sq.mx_ 48 aP.1 bT (me_ 35 0 (.int .u64 (gt (av.set ((gt (gt out z.1) J).1).toNat (z.2.1 + ((gt (gt out z.1) J).2))) ((gt (gt out z.1) J).1))) bq.sq aP.1 bT ?_)
     have ew := (t_ (t_ X.n Z.n) O.n)
     have cY := (aq.djn (ab.lt.le ew))
     have ey := (t_ (t_ (t_ X.n Z.n) O.n) Y.n)
     have cZ := (an.dj cY (ab.lt.le ey))
     have ez := (t_ (t_ (t_ (t_ (t_ X.n Z.n) O.n) Y.n) ag.n) V.n)
     have bN := (aC.dj cZ (ab.lt.le ez))
     have ft := (((aS.ext ai).fr aj (am.djn aS.lt)).fr aA (Dj.symm bN))
     have cl := (t_ (t_ (t_ (t_ O.n Y.n) ag.n) V.n) ah.n)
     have c0 := (am.djn (aD.lt.le cl))
     have fu := (((bt.ext ai).fr aj c0).fr aA (Dj.symm aM))
     have c1 := (am.djn (aT.ltF.le cl))
     have fv := (((bu.ext ai).frS aj c1).frS aA (Dj.symm aN))
     have cm := (t_ (t_ (t_ O.n Y.n) ag.n) V.n)
     have c2 := (aC.dj bH (aT.ltF.le cm))
     have c3 := (aC.dj bI (aD.lt.le cm))
     obtain ⟨cE, dE, e5⟩ := bs_ e4
     refine dk_ (Zc7 aA.wf ft fu fv c2 c3 (Dj.symm bj) dE) ?_
     rintro gc fI ⟨_, fX, f8, c9, rfl, bO, f3, ed, cc, ee, f0, dI, fU⟩
     obtain ⟨cJ, eA, cO, rfl⟩ := cc.form
     refine ⟨ZP, ?_⟩
     refine ZE ?_
     refine b6 _ _ (g_' ?_)
     obtain ⟨dd, e6⟩ := Zb e5
     refine w_' ((J + 1)) (Zn (by have := dd; omega)) (qs_ 1 (Za ?_))
     have fw := (bq.fr bO (Dj.app aN (Dj.app bN aM)))
     have eB := (t_ (t_ (t_ ah.n ai.n) aj.n) aA.n)
     obtain rfl := oi_ e6
     exact b5 cj _ _ lt_ ⟨(J + 1), (av.set ((gt (gt out z.1) J).1).toNat (z.2.1 + ((gt (gt out z.1) J).2))), cE.2.2, cE.2.1, (.slice cJ eA cO), c9, br, ha_, (fs_ V.wf (fs_ V.wf (fs_ V.wf ((fs_ V.wf (fr_ V.wf) ah ir_).extR ai) aj (am.fresh ah.n)) aA (Inn.right (Inn.right Inn.left))) bO (Inn.app Inn.left (Inn.app (Inn.trans (Inn.right Inn.left) (Nat.le_refl _) aC) (Inn.right (Inn.right (Inn.right ir_)))))), fw, cc, ed, ee, (Inn.trans (Inn.trans ir_ (Nat.le_refl _) aC) eB dI)⟩
    have e8 := ZL bo cr
    refine Zg (b6 _ _ (g_' ?_))
    obtain ⟨de, e9⟩ := Zb e8
    refine w_' ((J + 1)) (Zn (by have := de; omega)) (qs_ 1 (Za ?_))
    have eC := (t_ (t_ (t_ (t_ (t_ (t_ X.n Z.n) O.n) Y.n) ag.n) V.n) ah.n)
    have c4 := (am.djn (ab.lt.le eC))
    have fx := ((bb.ext ai).fr aj c4)
    have fy := ((aS.ext ai).fr aj (am.djn aS.lt))
    have co := (t_ (t_ (t_ (t_ O.n Y.n) ag.n) V.n) ah.n)
    have c5 := (am.djn (aD.lt.le co))
    have fz := ((bt.ext ai).fr aj c5)
    have c6 := (am.djn (aT.ltF.le co))
    have fA := ((bu.ext ai).frS aj c6)
    obtain rfl := oi_ e9
    exact b5 cj _ _ lt_ ⟨(J + 1), av, queue4, queue5, (.slice bF ck bG), aZ, br, ha_, (fs_ V.wf ((fs_ V.wf (fr_ V.wf) ah ir_).extR ai) aj (am.fresh ah.n)), fx, fy, fz, fA, (Inn.trans ir_ (Nat.le_refl _) aC)⟩
   have e_ := Zj a0 a1
   refine ZA (Zm (Zm (ZK ?_)))
   obtain rfl := oi_ e_
   obtain rfl := Zw br
   exact dP _ _ ⟨(.slice bF ck bG), aZ, ha_, (fs_ V.wf (fr_ V.wf) ah ir_), bb, aS, bt, bu, (Inn.trans ir_ (Nat.le_refl _) aC)⟩
  obtain ⟨bA, a6, bV, c7, d_, cb, ea, eb, dH⟩ := hM
  obtain ⟨β, rfl⟩ := Zi bV
  clear bV
  obtain ⟨cK, eD, cP, rfl⟩ := cb.form
  have eE := (t_ ag.n V.n)
  obtain rfl := oi_ eR
  exact dL eg _ _ lt_ ⟨aE.1, aE.2.1, aE.2.2, (.slice cK eD cP), a6, b0, ha_, (fs_ Y.wf (fs_ Y.wf (fs_ Y.wf (fr_ Y.wf) ag ir_) V (Inn.app Inn.left (Inn.app (Inn.trans (Inn.right Inn.left) (Nat.le_refl _) an) (Inn.right (Inn.right (Inn.right ir_)))))) c7 (Inn.app Inn.left (Inn.app (Inn.trans (Inn.right Inn.left) (Nat.le_refl _) an) (Inn.app (Inn.right (Inn.right Inn.left)) (Inn.right (Inn.right (Inn.right ir_))))))), d_, cb, ea, eb, (Inn.trans (Inn.trans ir_ (Nat.le_refl _) an) eE dH)⟩
 exact hM.elim
theorem Zf5 {H : AH} {aG : Value} {b7 : Fp} {aV : Value} {b4 : Fp} {au : Value} {b6 : Fp} {aF : Value} {b5 : Fp} {aq : Value} {b3 : Fp} {aE : Value} {b2 : Fp} {out : List (List (Int × Int))} {a9 : List (Int)} {J : List (Int)} {V : List (Int × Int × Int × Int)} {O : List (Int)} {Z : List (Int × Int × Int × Int)} {z : Int} {r : Bool}
    (af : WF H) (aU : Nst (CR.sl Z1 2) H aG out b7) (ce : Sq (Zh .u32) 1 H aV a9 b4) (bh : Sq (Zh .u32) 1 H au J b6) (bg : Sq Ze 4 H aF V b5) (cd : Sq (Zh .u32) 1 H aq O b3) (cc : Sq Ze 4 H aE Z b2) (bm : Zb3 out a9 J V O Z z = some r) :
    ACalls Tryz.prog 50 #[.agg #[aG], .agg #[aV, au, aF, aq, aE], i_ z] H fun v H' => v = .bool r /\ FrS [] H H' := by
 refine ab_ Tryz.func50 ?_
 unfold Zb3 at bm
 refine sq_ fun ct => g_' ?_
 refine Z3 af [aG] (Zd (aU.one1) (ZN)) (by kernel_rfl) fun aO du ae dC bD => ?_
 have bI := (cc.ext ae)
 have bJ := (cd.ext ae)
 have bK := (bg.ext ae)
 have bM := (bh.ext ae)
 have di := (ce.ext ae)
 refine Z3 ae.wf [aV, au, aF, aq, aE] (Zd (di.one1) (Zd (bM.one1) (Zd (bK.one1) (Zd (bJ.one1) (Zd (bI.one1) (ZN)))))) (by kernel_rfl) fun aP a8 aa dB ay => ?_
 refine qs_ 1 (Za (ct _ _ (sq_ fun cz => sq_ fun cA => ?_)))
 refine ZJ [0, 1, 2, 3, 4, 5, 6, 7, 8, 9, 10, 11, 12, 13, 14, 15] (by kernel_rfl) ?_
 refine es_ 1 (mr_ 23 4 (aE) ay (es_ 1 (mr_ 22 3 (aq) ay (es_ 1 ?_))))
 obtain ⟨ak, c9⟩ := Zb bm
 have aK := (bJ.ext aa)
 refine aK.mx_ 22 ak.1 ak.2 (me_ 60 0 (.int .u32 (gt O z)) aK ak.1 ak.2 (es_ 1 (mr_ 22 3 (aq) ay (es_ 1 ?_))))
 obtain ⟨bc, c_⟩ := Zb c9
 refine d_w ((z + 1)) (k := .i64) (x := (z + 1)) (by kernel_rfl) (Zn (by have := bc; omega)) ?_
 obtain ⟨al, da⟩ := Zb c_
 refine aK.mx_ 22 al.1 al.2 (me_ 60 0 (.int .u32 (gt O (z + 1))) aK al.1 al.2 ?_)
 obtain ⟨aC, db⟩ := Zb da
 have dk := (bI.ext aa)
 obtain ⟨dF, cO, aW⟩ := Sq.cut (P := Tryz.prog) dk (t := 23) (by kernel_rfl) (lo := (some (.int .u32 (gt O z)))) (hi := (some (.int .u32 (gt O (z + 1))))) (l := (gt O z).toNat) (r := (gt O (z + 1)).toNat) (ZQ _ (by have := aC; omega)) (ZQ _ (by have := aC; omega)) (by have := aC; omega) (by have := aC; omega)
 obtain ⟨az, aJ, aA, rfl⟩ := aW.form
 refine Zdv (.slice az aJ aA) (by kernel_rfl) cO ?_
 refine aW.mn_ 23 (es_ 1 ?_)
 refine ZE ?_
 refine cA _ _ ?_
 obtain ⟨bR, cn, a1⟩ := bs_ db
 refine Zv (fun α a6 => ∃ bz, bR = Sum.inr bz /\ Has α [] /\ FrS [] a8 a6) (fun _ cB => ?_) (fun α a6 hM => ?_)
 ·refine Zl ?_
  obtain ⟨bv, ci⟩ := Zr.1 cn
  refine Zy (fun n α a7 => ∃ (Y : Int), ZD (fun zz_ => Zbt out J V O Z z zz_) n Y = some bR /\ Has α [(2, i_ z), (3, pt_ aO 0), (4, pt_ aP 0), (26, .slice az aJ aA), (27, i_ (((Z.take (gt O (z + 1)).toNat).drop (gt O z).toNat).length : Int)), (28, i_ Y)] /\ FrS [] a8 a7) bv ⟨0, ci, ha_, (fr_ aa.wf)⟩ ?_
  rintro bv α a7 ⟨Y, cg, bl, ab⟩ dy cC
  obtain ⟨cM, dq, rfl, aw, aI⟩ := Zt cg
  obtain ⟨β, rfl⟩ := Zi bl
  clear bl
  replace aw : Zbt out J V O Z z Y = some dq := aw
  unfold Zbt at aw
  refine sn_ (sq_ fun cD => ?_)
  refine wc_ (Y < (((Z.take (gt O (z + 1)).toNat).drop (gt O z).toNat).length : Int)) (fun ao => ?_) fun ao => ?_
  ·have dc := Zf ao aw
   refine Zg (cD _ _ (sq_ fun cE => Zl (sq_ fun cF => g_' ?_)))
   obtain ⟨bd, dd⟩ := Zb dc
   have bP := (aW.fr ab dn_)
   refine bP.ix_ 23 bd ao (le_ 62 0 (.agg #[.int .u32 ((gt ((Z.take (gt O (z + 1)).toNat).drop (gt O z).toNat) Y).1), .int .u64 ((gt ((Z.take (gt O (z + 1)).toNat).drop (gt O z).toNat) Y).2.1), .int .u32 ((gt ((Z.take (gt O (z + 1)).toNat).drop (gt O z).toNat) Y).2.2.1), .int .u32 ((gt ((Z.take (gt O (z + 1)).toNat).drop (gt O z).toNat) Y).2.2.2)]) bP bd ao ?_)
   refine rk_ ab.wf [.int .u32 0, .int .u64 0, .int .u32 0, .int .u32 0] fun bS dv ah ai bE => ?_
   obtain ⟨dw, cP, ag, bF⟩ := ra_ 62 0 ah.wf bE [.int .u32 ((gt ((Z.take (gt O (z + 1)).toNat).drop (gt O z).toNat) Y).1), .int .u64 ((gt ((Z.take (gt O (z + 1)).toNat).drop (gt O z).toNat) Y).2.1), .int .u32 ((gt ((Z.take (gt O (z + 1)).toNat).drop (gt O z).toNat) Y).2.2.1), .int .u32 ((gt ((Z.take (gt O (z + 1)).toNat).drop (gt O z).toNat) Y).2.2.2)] [.int .u32 ((gt ((Z.take (gt O (z + 1)).toNat).drop (gt O z).toNat) Y).1), .int .u64 ((gt ((Z.take (gt O (z + 1)).toNat).drop (gt O z).toNat) Y).2.1), .int .u32 ((gt ((Z.take (gt O (z + 1)).toNat).drop (gt O z).toNat) Y).2.2.1), .int .u32 ((gt ((Z.take (gt O (z + 1)).toNat).drop (gt O z).toNat) Y).2.2.2)]
   refine ek_ cP (Za (cF _ _ (sq_ fun cG => ?_)))
   refine ZJ [0, 1, 2, 3, 4, 5, 6, 7, 8, 9, 10, 11, 12, 13, 14] (by kernel_rfl) ?_
   refine es_ 1 ?_
   have bX := (ai.djn (ay.ltF.le ab.n))
   have a2 := (((ay.frS ab dn_).ext ah).frS ag bX)
   refine mr_ 23 2 (aF) a2 (es_ 1 (mr_ 22 1 (au) a2 (es_ 1 ?_)))
   obtain ⟨be, de⟩ := Zb dd
   have ax := (t_ (t_ ae.n aa.n) ab.n)
   have bY := (ai.djn (bh.lt.le ax))
   have aL := ((((bM.ext aa).fr ab dn_).ext ah).fr ag bY)
   refine aL.mx_ 22 ak.1 be (me_ 60 0 (.int .u32 (gt J z)) aL ak.1 be (es_ 1 (mr_ 22 1 (au) a2 (es_ 1 ?_))))
   refine d_w ((z + 1)) (k := .i64) (x := (z + 1)) (by kernel_rfl) (Zn (by have := bc; omega)) ?_
   obtain ⟨bf, df⟩ := Zb de
   refine aL.mx_ 22 al.1 bf (me_ 60 0 (.int .u32 (gt J (z + 1))) aL al.1 bf ?_)
   obtain ⟨aD, bG⟩ := Zb df
   have bZ := (ai.djn (bg.lt.le ax))
   have dm := ((((bK.ext aa).fr ab dn_).ext ah).fr ag bZ)
   obtain ⟨dG, cQ, aX⟩ := Sq.cut (P := Tryz.prog) dm (t := 23) (by kernel_rfl) (lo := (some (.int .u32 (gt J z)))) (hi := (some (.int .u32 (gt J (z + 1))))) (l := (gt J z).toNat) (r := (gt J (z + 1)).toNat) (ZQ _ (by have := aD; omega)) (ZQ _ (by have := aD; omega)) (by have := aD; omega) (by have := aD; omega)
   obtain ⟨a_, bw, ba, rfl⟩ := aX.form
   refine Zdv (.slice a_ bw ba) (by kernel_rfl) cQ ?_
   refine es_ 1 ?_
   refine ZE ?_
   refine cG _ _ (sq_ fun cH => sq_ fun cI => g_' (qs_ 1 (aX.ln_ 23 (qs_ 1 (Za (cI _ _ ?_))))))
   refine wc_ ((((V.take (gt J (z + 1)).toNat).drop (gt J z).toNat).length : Int) = 0) (fun aT => ?_) fun aT => ?_
   ·have cR := Zf aT bG
    refine sn_ ?_
    refine Zp (Zk (ZI (Zk (Zk (ZI (Zk (Zk ?_)))))))
    obtain ⟨dH, bn, cp⟩ := map_some cR
    subst cp
    obtain rfl := Zw aI
    have cj := elim_inl a1
    rw [cj] at bn
    refine br_ [.bool true] ?_
    obtain rfl := oi_ bn
    exact ⟨rfl, (fs_ af ((fs_ af (((f0_ af).extR ae).extR aa) ab in_).extR ah) ag (ai.fresh ax))⟩
   have cS := Zj aT bG
   refine Zg (cH _ _ (sq_ fun cu => g_' ?_))
   have cJ := (t_ aa.n ab.n)
   have bT := (ai.djn (bD.ltF.le cJ))
   have dg := ((((bD.ext aa).frS ab dn_).ext ah).frS ag bT)
   refine lr_ 106 0 (.agg #[aG]) dg (qs_ 2 (lr_ 60 0 (.int .u32 ((gt ((Z.take (gt O (z + 1)).toNat).drop (gt O z).toNat) Y).1)) bF ?_))
   obtain ⟨b8, cT⟩ := Zb cS
   refine w_' ((gt ((Z.take (gt O (z + 1)).toNat).drop (gt O z).toNat) Y).1) (Zn b8) ?_
   have bU := (ai.djn (aU.lt.le ax))
   have dh := (((((aU.ext ae).ext aa).fr ab dn_).ext ah).fr ag bU)
   obtain ⟨aM, co, cU⟩ := bs_ cT
   refine ck_ (Zgf ag.wf dh co) ?_
   rintro dE a3 ⟨_, dA, rfl, ac, aY, dD⟩
   obtain ⟨aN, aZ, aQ, rfl⟩ := aY.form
   refine qs_ 1 (Za (cu _ _ (sq_ fun cv => g_' (qs_ 1 ?_))))
   have bH := (aX.fr ac dn_)
   refine bH.ln_ 23 (qs_ 1 (Za (cv _ _ ?_)))
   obtain ⟨bQ, cm, bA⟩ := bs_ cU
   refine Zv (fun α a4 => ∃ bx, bQ = Sum.inr bx /\ Has α [(2, i_ z), (3, pt_ aO 0), (4, pt_ aP 0), (26, .slice az aJ aA), (27, i_ (((Z.take (gt O (z + 1)).toNat).drop (gt O z).toNat).length : Int)), (28, i_ Y)] /\ FrS [] a3 a4) (fun _ cw => ?_) (fun α a4 hM => ?_)
   ·refine Zl ?_
    obtain ⟨bt, ch⟩ := Zr.1 cm
    refine Zy (fun n α a5 => ∃ (X : Int), ZD (fun zz_ => Zbv J V O Z z Y aM zz_) n X = some bQ /\ Has α [(2, i_ z), (3, pt_ aO 0), (4, pt_ aP 0), (8, pt_ bS 0), (10, .slice aN aZ aQ), (26, .slice az aJ aA), (27, i_ (((Z.take (gt O (z + 1)).toNat).drop (gt O z).toNat).length : Int)), (28, i_ Y), (55, .slice a_ bw ba), (56, i_ (((V.take (gt J (z + 1)).toNat).drop (gt J z).toNat).length : Int)), (57, i_ X)] /\ FrS [] a3 a5) bt ⟨0, ch, ha_, (fr_ ac.wf)⟩ ?_
    rintro bt α a5 ⟨X, cf, bj, ad⟩ dx bq
    obtain ⟨bu, dp, rfl, av, aH⟩ := Zt cf
    obtain ⟨β, rfl⟩ := Zi bj
    clear bj
    replace av : Zbv J V O Z z Y aM X = some dp := av
    unfold Zbv at av
    refine sn_ (sq_ fun cx => ?_)
    refine wc_ (X < (((V.take (gt J (z + 1)).toNat).drop (gt J z).toNat).length : Int)) (fun an => ?_) fun an => ?_
    ·have cV := Zf an av
     refine Zg (cx _ _ (sq_ fun br => Zl (sq_ fun cy => g_' ?_)))
     obtain ⟨bb, bB⟩ := Zb cV
     have bL := (bH.fr ad dn_)
     refine bL.ix_ 23 bb an (le_ 62 0 (.agg #[.int .u32 ((gt ((V.take (gt J (z + 1)).toNat).drop (gt J z).toNat) X).1), .int .u64 ((gt ((V.take (gt J (z + 1)).toNat).drop (gt J z).toNat) X).2.1), .int .u32 ((gt ((V.take (gt J (z + 1)).toNat).drop (gt J z).toNat) X).2.2.1), .int .u32 ((gt ((V.take (gt J (z + 1)).toNat).drop (gt J z).toNat) X).2.2.2)]) bL bb an ?_)
     refine rk_ ad.wf [.int .u32 0, .int .u64 0, .int .u32 0, .int .u32 0] fun dz dr aj ap cW => ?_
     obtain ⟨dt, cN, am, a0⟩ := ra_ 62 0 aj.wf cW [.int .u32 ((gt ((V.take (gt J (z + 1)).toNat).drop (gt J z).toNat) X).1), .int .u64 ((gt ((V.take (gt J (z + 1)).toNat).drop (gt J z).toNat) X).2.1), .int .u32 ((gt ((V.take (gt J (z + 1)).toNat).drop (gt J z).toNat) X).2.2.1), .int .u32 ((gt ((V.take (gt J (z + 1)).toNat).drop (gt J z).toNat) X).2.2.2)] [.int .u32 ((gt ((V.take (gt J (z + 1)).toNat).drop (gt J z).toNat) X).1), .int .u64 ((gt ((V.take (gt J (z + 1)).toNat).drop (gt J z).toNat) X).2.1), .int .u32 ((gt ((V.take (gt J (z + 1)).toNat).drop (gt J z).toNat) X).2.2.1), .int .u32 ((gt ((V.take (gt J (z + 1)).toNat).drop (gt J z).toNat) X).2.2.2)]
     refine ek_ cN (Za (cy _ _ (sq_ fun bs => ?_)))
     refine ZJ [0, 1, 2, 3, 4, 5, 6, 7, 8, 9, 10, 11, 12, 13, 14, 15, 16, 17] (by kernel_rfl) ?_
     refine es_ 1 ?_
     have cK := (t_ (t_ ag.n ac.n) ad.n)
     have bV := (ap.djn (bE.ltF.le cK))
     have bN := ((((bF.frS ac dn_).frS ad dn_).ext aj).frS am bV)
     refine mr_ 60 0 (.int .u32 ((gt ((Z.take (gt O (z + 1)).toNat).drop (gt O z).toNat) Y).1)) bN (es_ 1 (mr_ 60 0 (.int .u32 ((gt ((V.take (gt J (z + 1)).toNat).drop (gt J z).toNat) X).1)) a0 ?_))
     refine ZjB (((gt ((Z.take (gt O (z + 1)).toNat).drop (gt O z).toNat) Y).1) = ((gt ((V.take (gt J (z + 1)).toNat).drop (gt J z).toNat) X).1)) (by kernel_rfl) (fun aR => ?_) (fun aR => ?_)
     ·have cX := Zf aR bB
      refine es_ 13 ?_
      refine ZE ?_
      refine bs _ _ ?_
      refine wb_ false (fun h => by cases h) fun _ => ?_
      refine Zg (br _ _ (g_' ?_))
      obtain ⟨b9, cY⟩ := Zb cX
      refine w_' ((X + 1)) (Zn (by have := b9; omega)) (qs_ 1 (Za ?_))
      obtain rfl := oi_ cY
      exact bq bu _ _ lt_ ⟨(X + 1), aH, ha_, (fs_ ac.wf ((fs_ ac.wf (fr_ ac.wf) ad in_).extR aj) am (ap.fresh ad.n))⟩
     have cZ := Zj aR bB
     refine es_ 3 (mr_ 60 0 (.int .u32 ((gt ((V.take (gt J (z + 1)).toNat).drop (gt J z).toNat) X).1)) a0 ?_)
     obtain ⟨aB, c0⟩ := Zb cZ
     have bW := (ap.djn (aY.lt.le ad.n))
     have bO := (((aY.fr ad dn_).ext aj).fr am bW)
     refine m_' (elp (.slice aN aZ aQ) 1 ((gt ((V.take (gt J (z + 1)).toNat).drop (gt J z).toNat) X).1).toNat 0) (ZB Tryz.prog 48 (.slice aN aZ aQ) (.int .u32 ((gt ((V.take (gt J (z + 1)).toNat).drop (gt J z).toNat) X).1))) (bO.sq.idxb (by kernel_rfl) aB.1 aB.2) (me_ 35 0 (.int .u64 (gt aM ((gt ((V.take (gt J (z + 1)).toNat).drop (gt J z).toNat) X).1))) bO.sq aB.1 aB.2 (es_ 1 (mr_ 35 1 (.int .u64 ((gt ((Z.take (gt O (z + 1)).toNat).drop (gt O z).toNat) Y).2.1)) bN (es_ 1 (mr_ 35 1 (.int .u64 ((gt ((V.take (gt J (z + 1)).toNat).drop (gt J z).toNat) X).2.1)) a0 ?_)))))
     obtain ⟨b_, bC⟩ := Zb c0
     refine d_w ((((gt ((Z.take (gt O (z + 1)).toNat).drop (gt O z).toNat) Y).2.1) + ((gt ((V.take (gt J (z + 1)).toNat).drop (gt J z).toNat) X).2.1))) (k := .u64) (x := (((gt ((Z.take (gt O (z + 1)).toNat).drop (gt O z).toNat) Y).2.1) + ((gt ((V.take (gt J (z + 1)).toNat).drop (gt J z).toNat) X).2.1))) (by kernel_rfl) (Zag b_) ?_
     refine es_ 2 ?_
     refine ZE ?_
     refine bs _ _ ?_
     refine wc_ ((gt aM ((gt ((V.take (gt J (z + 1)).toNat).drop (gt J z).toNat) X).1)) > (((gt ((Z.take (gt O (z + 1)).toNat).drop (gt O z).toNat) Y).2.1) + ((gt ((V.take (gt J (z + 1)).toNat).drop (gt J z).toNat) X).2.1))) (fun aS => ?_) fun aS => ?_
     ·have c1 := Zf aS bC
      refine sn_ ?_
      refine Zp (ZI (Zk (Zk (ZI (Zk (ZI (Zk (Zk (ZI (Zk (Zk ?_)))))))))))
      obtain ⟨dI, bo, cq⟩ := map_some c1
      subst cq
      obtain rfl := Zw aH
      have ck := elim_inl bA
      rw [ck] at bo
      obtain ⟨dJ, bp, cr⟩ := map_some bo
      subst cr
      obtain rfl := Zw aI
      have cl := elim_inl a1
      rw [cl] at bp
      refine br_ [.bool false] ?_
      have cL := (t_ (t_ (t_ (t_ (t_ (t_ ae.n aa.n) ab.n) ah.n) ag.n) ac.n) ad.n)
      obtain rfl := oi_ bp
      exact ⟨rfl, (fs_ af ((fs_ af (fs_ af (fs_ af ((fs_ af (((f0_ af).extR ae).extR aa) ab in_).extR ah) ag (ai.fresh ax)) ac in_) ad in_).extR aj) am (ap.fresh cL))⟩
     have c2 := Zj aS bC
     refine Zg (br _ _ (g_' ?_))
     obtain ⟨ca, c3⟩ := Zb c2
     refine w_' ((X + 1)) (Zn (by have := ca; omega)) (qs_ 1 (Za ?_))
     obtain rfl := oi_ c3
     exact bq bu _ _ lt_ ⟨(X + 1), aH, ha_, (fs_ ac.wf ((fs_ ac.wf (fr_ ac.wf) ad in_).extR aj) am (ap.fresh ad.n))⟩
    have c4 := Zj an av
    refine ZA (Zm (Zm (ZK ?_)))
    obtain rfl := oi_ c4
    obtain rfl := Zw aH
    exact cw _ _ ⟨_, rfl, ha_, (fs_ ac.wf (fr_ ac.wf) ad in_)⟩
   obtain ⟨bx, rfl, bi, b0⟩ := hM
   have c5 := elim_inr bA
   obtain ⟨β, rfl⟩ := Zi bi
   clear bi
   refine cE _ _ (g_' ?_)
   obtain ⟨cb, c6⟩ := Zb c5
   refine w_' ((Y + 1)) (Zn (by have := cb; omega)) (qs_ 1 (Za ?_))
   obtain rfl := oi_ c6
   exact cC cM _ _ lt_ ⟨(Y + 1), aI, ha_, (fs_ aa.wf (fs_ aa.wf (fs_ aa.wf ((fs_ aa.wf (fr_ aa.wf) ab in_).extR ah) ag (ai.fresh ab.n)) ac in_) b0 in_)⟩
  have c7 := Zj ao aw
  refine ZA (Zm (Zm (ZK ?_)))
  obtain rfl := oi_ c7
  obtain rfl := Zw aI
  exact cB _ _ ⟨_, rfl, trivial, (fs_ aa.wf (fr_ aa.wf) ab in_)⟩
 obtain ⟨bz, rfl, bk, b1⟩ := hM
 have c8 := elim_inr a1
 obtain ⟨β, rfl⟩ := Zi bk
 clear bk
 refine cz _ _ (sn_ ?_)
 refine Zp ?_
 refine br_ [.bool true] ?_
 obtain rfl := oi_ c8
 exact ⟨rfl, (fs_ af (((f0_ af).extR ae).extR aa) b1 in_)⟩
theorem ZhG {H : AH} {ab : Value} {br : Fp} {ai : Value} {bt : Fp} {ah : Value} {bs : Fp} {ag : Value} {bq : Fp} {af : Value} {bp : Fp} {ae : List (Int)} {an : List (Int)} {am : List (Int × Int × Int × Int)} {al : List (Int)} {ak : List (Int × Int × Int × Int)} {r : Er}
    (J : WF H) (az : Sq (Zh .u32) 1 H ab ae br) (aB : Sq (Zh .u32) 1 H ai an bt) (aA : Sq Ze 4 H ah am bs) (ay : Sq (Zh .u32) 1 H ag al bq) (ax : Sq Ze 4 H af ak bp) (aO : ZbZ ae an am al ak = some r) :
    ACalls Tryz.prog 11 #[.agg #[ab, ai, ah, ag, af]] H fun v H' => ∃ (ba : Value) (aL : Fp), v = ba /\ FrS [] H H' /\ Ev 92 195 H' ba r aL /\ Inn [] H aL := by
 refine ab_ Tryz.func11 ?_
 unfold ZbZ at aO
 refine sq_ fun bL => g_' ?_
 refine Z3 J [ab, ai, ah, ag, af] (Zd (az.one1) (Zd (aB.one1) (Zd (aA.one1) (Zd (ay.one1) (Zd (ax.one1) (ZN)))))) (by kernel_rfl) fun be cp Y ct aF => ?_
 refine qs_ 1 (Za (bL _ _ (sq_ fun bI => sq_ fun bJ => g_' (lr_ 25 0 (.agg #[ab, ai, ah, ag, af]) aF ?_))))
 have aX := (az.ext Y)
 have aY := (aB.ext Y)
 have aZ := (aA.ext Y)
 have a0 := (ay.ext Y)
 have a1 := (ax.ext Y)
 obtain ⟨cz, bC, aV⟩ := bs_ aO
 refine ck_ (Zdn Y.wf aX aY aZ a0 a1 bC) ?_
 rintro cx cm ⟨_, bo, rfl, O, aR, bG⟩
 refine qs_ 1 (Za (bJ _ _ (sq_ fun aQ => g_' (qs_ 1 ?_))))
 rcases (aR).cases with ⟨av, rfl⟩ | ⟨av, aG, aH, rfl⟩
 ·have b5 := Zf av aV
  refine qs_ 1 (Za (aQ _ _ ?_))
  refine wb_ false (fun h => by cases h) fun _ => ?_
  refine Zg (bI _ _ (sq_ fun bK => g_' ?_))
  have a2 := (aF.frS O dn_)
  refine lr_ 25 0 (.agg #[ab, ai, ah, ag, af]) a2 ?_
  have a3 := (aX.fr O dn_)
  have a4 := (aY.fr O dn_)
  have a5 := (aZ.fr O dn_)
  have a6 := (a0.fr O dn_)
  have a7 := (a1.fr O dn_)
  obtain ⟨bb, bD, b6⟩ := bs_ b5
  refine ck_ (ZhA O.wf a3 a4 a5 a6 a7 bD) ?_
  rintro _ cn ⟨cv, cr, rfl, X, aD, cu⟩
  obtain ⟨ap, aE, aq, rfl⟩ := aD.form
  refine rk_ X.wf [.slice none 0 0] fun bd co Z aa b7 => ?_
  have ch := (aD.ext Z)
  obtain ⟨aI, bX, z, b8⟩ := ra_ 106 0 Z.wf b7 [.slice ap aE aq] [.slice ap aE aq]
  refine ek_ bX (Za (bK _ _ (sq_ fun bM => sq_ fun bN => g_' (qs_ 1 ?_))))
  have bV := (t_ O.n X.n)
  have bj := (aa.djn (aF.ltF.le bV))
  have a8 := (((a2.frS X dn_).ext Z).frS z bj)
  refine lr_ 22 0 (ab) a8 ?_
  have ad := (t_ (t_ Y.n O.n) X.n)
  have bk := (aa.djn (az.lt.le ad))
  have a9 := (((a3.fr X dn_).ext Z).fr z bk)
  refine a9.ln_ 22 (qs_ 1 (Za (bN _ _ ?_)))
  obtain ⟨bc, bz, aW⟩ := bs_ b6
  refine Zv (fun α aJ => ∃ aT, bc = Sum.inr aT /\ Has α [] /\ FrS [] aI aJ) (fun _ bO => ?_) (fun α aJ hM => ?_)
  ·refine Zl ?_
   obtain ⟨aS, bw⟩ := Zr.1 bz
   refine Zy (fun n α aK => ∃ (ac : Int), ZD (fun zz_ => Zcm ae an am al ak bb zz_) n ac = some bc /\ Has α [(1, pt_ be 0), (4, pt_ bd 0), (15, i_ (ae.length : Int)), (16, i_ ac)] /\ FrS [] aI aK) aS ⟨0, bw, ha_, (fr_ z.wf)⟩ ?_
   rintro aS α aK ⟨ac, bv, aN, V⟩ cq bP
   obtain ⟨bW, cj, rfl, aj, aC⟩ := Zt bv
   obtain ⟨β, rfl⟩ := Zi aN
   clear aN
   replace aj : Zcm ae an am al ak bb ac = some cj := aj
   unfold Zcm at aj
   refine sn_ (sq_ fun bQ => ?_)
   refine wc_ (ac < (ae.length : Int)) (fun aw => ?_) fun aw => ?_
   ·have b9 := Zf aw aj
    refine Zg (bQ _ _ (sq_ fun bR => Zl (sn_ (sq_ fun bS => g_' ?_))))
    have b_ := (b8.frS V dn_)
    refine lr_ 106 0 (.agg #[.slice ap aE aq]) b_ ?_
    have ca := (a8.frS V dn_)
    refine lr_ 25 0 (.agg #[ab, ai, ah, ag, af]) ca (qs_ 1 ?_)
    have cb := ((ch.fr z (aa.djn aD.lt)).fr V dn_)
    have cc := (a9.fr V dn_)
    have bf := (aa.djn (aB.lt.le ad))
    have cd := ((((a4.fr X dn_).ext Z).fr z bf).fr V dn_)
    have bg := (aa.djn (aA.lt.le ad))
    have ce := ((((a5.fr X dn_).ext Z).fr z bg).fr V dn_)
    have bh := (aa.djn (ay.lt.le ad))
    have cf := ((((a6.fr X dn_).ext Z).fr z bh).fr V dn_)
    have bi := (aa.djn (ax.lt.le ad))
    have cg := ((((a7.fr X dn_).ext Z).fr z bi).fr V dn_)
    obtain ⟨ci, bA, aU⟩ := bs_ b9
    refine ck_ (Zf5 V.wf cb cc cd ce cf cg bA) ?_
    rintro _ ck ⟨rfl, ao⟩
    refine qs_ 1 (Za (bS _ _ ?_))
    refine wb_ ((!ci)) (fun au => ?_) fun au => ?_
    ·have bY := Zf au aU
     refine sq_ fun bH => g_' (qs_ 2 ?_)
     obtain ⟨cy, bB, bZ⟩ := bs_ bY
     refine ck_ (Zdq ao.wf (Ev.no (tf := 195)) bB) ?_
     rintro a_ cl ⟨_, bn, rfl, bl, bT, bF⟩
     refine qs_ 1 (Za (bH _ _ ?_))
     refine Zp (ZI (Zk (Zk (ZI (Zk (Zk ?_))))))
     obtain ⟨cw, aP, bE⟩ := map_some bZ
     subst bE
     obtain rfl := Zw aC
     have bx := elim_inl aW
     rw [bx] at aP
     refine br_ [a_] ?_
     have bU := (t_ (t_ (t_ (t_ (t_ (t_ Y.n O.n) X.n) Z.n) z.n) V.n) ao.n)
     obtain rfl := oi_ aP
     exact ⟨(a_), bn, rfl, (fs_ J (fs_ J (fs_ J (fs_ J ((fs_ J (fs_ J ((f0_ J).extR Y) O in_) X in_).extR Z) z (aa.fresh ad)) V in_) ao in_) bl in_), bT, (bF.fresh bU)⟩
    have b0 := ZL au aU
    refine Zg (bR _ _ (g_' ?_))
    obtain ⟨bu, b1⟩ := Zb b0
    refine w_' ((ac + 1)) (Zn bu) (qs_ 1 (Za ?_))
    obtain rfl := oi_ b1
    exact bP bW _ _ lt_ ⟨(ac + 1), aC, ha_, (fs_ z.wf (fs_ z.wf (fr_ z.wf) V in_) ao in_)⟩
   have b2 := Zj aw aj
   refine ZA (Zm (Zm (ZK ?_)))
   obtain rfl := oi_ b2
   obtain rfl := Zw aC
   exact bO _ _ ⟨_, rfl, trivial, (fs_ z.wf (fr_ z.wf) V in_)⟩
  obtain ⟨aT, rfl, aM, bm⟩ := hM
  have b3 := elim_inr aW
  obtain ⟨β, rfl⟩ := Zi aM
  clear aM
  refine bM _ _ (sn_ ?_)
  refine Zp ?_
  refine br_ [.nilIface] ?_
  obtain rfl := oi_ b3
  exact ⟨(.nilIface), [], rfl, (fs_ J (fs_ J ((fs_ J (fs_ J ((f0_ J).extR Y) O in_) X in_).extR Z) z (aa.fresh ad)) bm in_), Ev.nil, in_⟩
 have b4 := Zj av aV
 refine l_' (.bool true) (Zaw Tryz.prog .neq 33 (.tmp 8) (.const .nilIface) (.iface aG aH) .nilIface) (ZU (by kernel_rfl)) (Za (aQ _ _ ?_))
 refine wb_ true (fun _ => ?_) fun h => by cases h
 refine sn_ ?_
 refine Zp (Zk ?_)
 refine br_ [.iface aG aH] ?_
 obtain rfl := oi_ b4
 exact ⟨(.iface aG aH), bo, rfl, (fs_ J ((f0_ J).extR Y) O in_), aR, (bG.fresh Y.n)⟩
theorem Zic {H : AH} {X : Value} {aA : Fp} {Z : Value} {aC : Fp} {Y : Value} {aB : Fp} {V : Value} {az : Fp} {O : Value} {ay : Fp} {af : List (Int)} {ah : List (Int)} {ag : List (Int × Int × Int × Int)} {ae : List (Int)} {ad : List (Int × Int × Int × Int)} {s : Int} {t : Int} {r : Int × Er}
    (aa : WF H) (am : Sq (Zh .u32) 1 H X af aA) (ao : Sq (Zh .u32) 1 H Z ah aC) (an : Sq Ze 4 H Y ag aB) (al : Sq (Zh .u32) 1 H V ae az) (ak : Sq Ze 4 H O ad ay) (aq : Zdm af ah ag ae ad s t = some r) :
    ACalls Tryz.prog 53 #[.agg #[X, Z, Y, V, O], i_ s, i_ t] H fun v H' => ∃ (aw : Value) (aj : Fp), v = .tuple #[i_ r.1, aw] /\ FrS [] H H' /\ Ev 92 195 H' aw r.2 aj /\ Inn [] H aj := by
 refine ab_ Tryz.func53 ?_
 unfold Zdm at aq
 refine sq_ fun aH => g_' ?_
 refine Z3 aa [X, Z, Y, V, O] (Zd (am.one1) (Zd (ao.one1) (Zd (an.one1) (Zd (al.one1) (Zd (ak.one1) (ZN)))))) (by kernel_rfl) fun aZ aX z a0 aK => ?_
 refine qs_ 2 (Za (aH _ _ (sq_ fun aF => g_' (lr_ 25 0 (.agg #[X, Z, Y, V, O]) aK (qs_ 2 ?_)))))
 have aO := (am.ext z)
 have aP := (ao.ext z)
 have aQ := (an.ext z)
 have aR := (al.ext z)
 have aS := (ak.ext z)
 obtain ⟨J, aD, aL⟩ := bs_ aq
 refine ck_ (ZfG z.wf aO aP aQ aR aS aD) ?_
 rintro _ aU ⟨av, ax, rfl, ab, au, aE⟩
 refine qs_ 3 ?_
 refine rk_ ab.wf [i_ 0, .int .u64 0] fun aY aV ac ap aM => ?_
 obtain ⟨aW, aJ, ai, aN⟩ := ra_ 111 0 ac.wf aM [i_ J.1, .int .u64 J.2.1] [i_ J.1, .int .u64 J.2.1]
 refine ek_ aJ (qs_ 1 (Za (aF _ _ (sq_ fun aG => g_' (qs_ 1 (lr_ 3 0 (i_ J.1) aN (qs_ 3 (Za (aG _ _ ?_)))))))))
 refine Zp ?_
 refine br_ [i_ J.1, av] ?_
 have aI := (t_ z.n ab.n)
 have aT := ((au.ext ac).fr ai (ap.djn au.lt))
 obtain rfl := oi_ aL
 exact ⟨(av), ax, rfl, (fs_ aa ((fs_ aa ((f0_ aa).extR z) ab in_).extR ac) ai (ap.fresh aI)), aT, (aE.fresh z.n)⟩
end Go.Vd

/-! (KWt9) -/

set_option maxRecDepth 100000
set_option maxHeartbeats 4000000
set_option linter.unusedVariables false
namespace Go.Vd
open Go.Proofs
attribute [local irreducible] Zs Zu aWp
theorem Zfm {H : AH} {ae : Value} {bA : Fp} {V : Value} {bB : Fp} {ad : Value} {bC : Fp} {first : List (Int)} {Z : List (Int × Int × Int × Int)} {seen : List (Int × Int × Bool)} {at_ : Int} {r : Int × Int}
    (af : WF H) (aH : Sq (Zh .u32) 1 H ae first bA) (aI : Sq Ze 4 H V Z bB) (aJ : Sq Zau 3 H ad seen bC) (a7 : ZcB first Z seen at_ = some r) :
    ACalls Tryz.prog 109 #[ae, V, ad, i_ at_] H fun v H' => v = .tuple #[i_ r.1, i_ r.2] /\ FrS [] H H' := by
 refine ab_ Tryz.func109 ?_
 unfold ZcB at a7
 refine sn_ (sq_ fun b8 => g_' ?_)
 refine s_mp .i64 .u64 af (by kernel_rfl) fun aa aS Y aj aM => ?_
 refine qs_ 1 (Za (b8 _ _ (sq_ fun ci => sq_ fun bY => g_' (qs_ 1 ?_))))
 have aO := (aJ.ext Y)
 refine aO.ln_ 41 (qs_ 1 (Za (bY _ _ ?_)))
 obtain ⟨ag, bT, cx⟩ := bs_ a7
 refine Zv (fun α al => Has α [(0, ae), (1, V), (2, ad), (3, i_ at_), (10, .map (some aa))] /\ FrS [aa] aS al /\ Mp .i64 .u64 al aa ag) (fun _ b7 => ?_) (fun α al hM => ?_)
 ·refine Zl ?_
  obtain ⟨bc, bO⟩ := Zr.1 bT
  refine Zy (fun n α aB => ∃ (dist0 : Int -> Option Int), ∃ (O : Int), ZD (fun zz_ => Zch seen zz_.1 zz_.2) n (dist0, O) = some ag /\ Has α [(0, ae), (1, V), (2, ad), (3, i_ at_), (10, .map (some aa)), (17, ad), (18, i_ (seen.length : Int)), (19, i_ O)] /\ FrS [aa] aS aB /\ Mp .i64 .u64 aB aa dist0) bc ⟨(fun _ => none), 0, bO, ha_, (fr_ Y.wf), aM⟩ ?_
  rintro bc α aB ⟨dist0, O, bL, a3, ah, ba⟩ c3 b9
  obtain ⟨co, cW, rfl, aq, a6⟩ := Zt bL
  obtain ⟨β, rfl⟩ := Zi a3
  clear a3
  replace aq : Zch seen dist0 O = some cW := aq
  unfold Zch at aq
  refine sn_ (sq_ fun b_ => ?_)
  refine wc_ (O < (seen.length : Int)) (fun an => ?_) fun an => ?_
  ·have cL := Zf an aq
   refine Zg (b_ _ _ (sq_ fun ca => Zl (sq_ fun cb => g_' ?_)))
   obtain ⟨aW, cM⟩ := Zb cL
   have bn := (aO.fr ah (aj.djn aJ.lt))
   refine bn.ix_ 41 aW an (le_ 199 0 (.agg #[i_ ((gt seen O).1), .int .u64 ((gt seen O).2.1), .bool ((gt seen O).2.2)]) bn aW an ?_)
   refine rk_ ah.wf [i_ 0, .int .u64 0, .bool false] fun c5 cY aC aY cN => ?_
   obtain ⟨cZ, cr, aD, bl⟩ := ra_ 199 0 aC.wf cN [i_ ((gt seen O).1), .int .u64 ((gt seen O).2.1), .bool ((gt seen O).2.2)] [i_ ((gt seen O).1), .int .u64 ((gt seen O).2.1), .bool ((gt seen O).2.2)]
   refine ek_ cr (Za (cb _ _ (g_' (qs_ 2 (lr_ 3 0 (i_ ((gt seen O).1)) bl (qs_ 1 (lr_ 35 1 (.int .u64 ((gt seen O).2.1)) bl ?_)))))))
   have bv := (aY.djn (aM.ltF.le ah.n))
   have cU := ((ba.ext aC).frS aD bv)
   obtain ⟨c0, ct, bw, cl⟩ := cU.put (P := Tryz.prog) aD.wf (t := 255) (by kernel_rfl) ((gt seen O).1) ((gt seen O).2.1)
   have bx := bw.frS (W := [aa]) (List.mem_singleton.2 rfl)
   refine ek_ ct (Za (ca _ _ (g_' ?_)))
   obtain ⟨bJ, cO⟩ := Zb cM
   refine w_' ((O + 1)) (Zn (by have := bJ; omega)) (qs_ 1 (Za ?_))
   obtain rfl := oi_ cO
   exact b9 co _ _ lt_ ⟨(fun x => if x = ((gt seen O).1) then some ((gt seen O).2.1) else dist0 x), (O + 1), a6, ha_, (fs_ Y.wf (fs_ Y.wf ((fs_ Y.wf (fr_ Y.wf) ah ir_).extR aC) aD (aY.fresh ah.n)) bx ir_), cl⟩
  have cP := Zj an aq
  refine ZA (Zm (Zm (ZK ?_)))
  obtain rfl := oi_ cP
  obtain rfl := Zw a6
  exact b7 _ _ ⟨ha_, (fs_ Y.wf (fr_ Y.wf) ah ir_), ba⟩
 obtain ⟨a2, X, ck⟩ := hM
 obtain ⟨β, rfl⟩ := Zi a2
 clear a2
 refine ci _ _ (sq_ fun cc => sq_ fun cd => g_' (qs_ 1 ?_))
 have bo := (aO.fr X (aj.djn aJ.lt))
 refine bo.ln_ 41 (qs_ 1 (Za (cd _ _ ?_)))
 obtain ⟨br, bV, bm⟩ := bs_ cx
 refine Zv (fun α aT => ∃ bg, br = Sum.inr bg /\ Has α [(3, i_ at_)] /\ FrS [] al aT) (fun _ ce => ?_) (fun α aT hM => ?_)
 ·refine Zl ?_
  obtain ⟨bd, bP⟩ := Zr.1 bV
  refine Zy (fun n α aU => ∃ (z : Int), ZD (fun zz_ => Zcr first Z seen at_ ag zz_) n z = some br /\ Has α [(0, ae), (1, V), (3, i_ at_), (10, .map (some aa)), (29, ad), (30, i_ (seen.length : Int)), (31, i_ z)] /\ FrS [] al aU) bd ⟨0, bP, ha_, (fr_ X.wf)⟩ ?_
  rintro bd α aU ⟨z, bM, a5, ac⟩ c4 cf
  obtain ⟨cp, cX, rfl, au, aL⟩ := Zt bM
  obtain ⟨β, rfl⟩ := Zi a5
  clear a5
  replace au : Zcr first Z seen at_ ag z = some cX := au
  unfold Zcr at au
  refine sn_ (sq_ fun cg => ?_)
  refine wc_ (z < (seen.length : Int)) (fun ao => ?_) fun ao => ?_
  ·have cQ := Zf ao au
   refine Zg (cg _ _ (sq_ fun ch => Zl (sq_ fun cj => g_' ?_)))
   obtain ⟨aX, cR⟩ := Zb cQ
   have bp := (bo.fr ac dn_)
   refine bp.ix_ 41 aX ao (le_ 199 0 (.agg #[i_ ((gt seen z).1), .int .u64 ((gt seen z).2.1), .bool ((gt seen z).2.2)]) bp aX ao ?_)
   refine rk_ ac.wf [i_ 0, .int .u64 0, .bool false] fun aV c1 ai ap cS => ?_
   obtain ⟨av, cq, am, az⟩ := ra_ 199 0 ai.wf cS [i_ ((gt seen z).1), .int .u64 ((gt seen z).2.1), .bool ((gt seen z).2.2)] [i_ ((gt seen z).1), .int .u64 ((gt seen z).2.1), .bool ((gt seen z).2.2)]
   refine ek_ cq (Za (cj _ _ (sq_ fun bZ => g_' (qs_ 2 (lr_ 3 0 (i_ ((gt seen z).1)) az ?_)))))
   obtain ⟨aw, cu⟩ := Zb cR
   have aN := (t_ (t_ Y.n X.n) ac.n)
   have bs := (ap.djn (aH.lt.le aN))
   have aA := (((((aH.ext Y).fr X (aj.djn aH.lt)).fr ac dn_).ext ai).fr am bs)
   refine aA.ix_ 22 aw.1 aw.2 (le_ 60 0 (.int .u32 (gt first ((gt seen z).1))) aA aw.1 aw.2 (qs_ 1 (Za (bZ _ _ ?_))))
   obtain ⟨bq, bS, bh⟩ := bs_ cu
   refine Zv (fun α aP => ∃ be, bq = Sum.inr be /\ Has α [(0, ae), (1, V), (3, i_ at_), (10, .map (some aa)), (29, ad), (30, i_ (seen.length : Int)), (31, i_ z)] /\ av = aP) (fun _ b0 => ?_) (fun α aP hM => ?_)
   ·refine Zl ?_
    obtain ⟨bb, bN⟩ := Zr.1 bS
    refine Zy (fun n α aQ => ∃ (J : Int), ZD (fun zz_ => Zci first Z seen at_ ag z zz_) n J = some bq /\ Has α [(0, ae), (1, V), (3, i_ at_), (10, .map (some aa)), (14, pt_ aV 0), (15, .int .u32 J), (29, ad), (30, i_ (seen.length : Int)), (31, i_ z)] /\ av = aQ) bb ⟨(gt first ((gt seen z).1)), bN, ha_, rfl⟩ ?_
    rintro bb α aQ ⟨J, bK, a0, rfl⟩ c2 b1
    obtain ⟨cm, cV, rfl, ay, aK⟩ := Zt bK
    obtain ⟨β, rfl⟩ := Zi a0
    clear a0
    replace ay : Zci first Z seen at_ ag z J = some cV := ay
    unfold Zci at ay
    refine sq_ fun b2 => sq_ fun b3 => g_' (qs_ 3 (lr_ 3 0 (i_ ((gt seen z).1)) az ?_))
    obtain ⟨bD, cv⟩ := Zb ay
    refine w_' ((((gt seen z).1) + 1)) (Zn bD) ?_
    obtain ⟨ax, bi⟩ := Zb cv
    refine aA.ix_ 22 ax.1 ax.2 (le_ 60 0 (.int .u32 (gt first (((gt seen z).1) + 1))) aA ax.1 ax.2 (qs_ 1 (Za (b3 _ _ ?_))))
    refine wc_ (J < (gt first (((gt seen z).1) + 1))) (fun aE => ?_) fun aE => ?_
    ·have cw := Zf aE bi
     refine Zg (b2 _ _ (sq_ fun b4 => Zl (sq_ fun b5 => ?_)))
     obtain ⟨bf, bU, bj⟩ := bs_ cw
     refine Zv (fun α aR => Has α [(0, ae), (1, V), (3, i_ at_), (10, .map (some aa)), (14, pt_ aV 0), (15, .int .u32 J), (29, ad), (30, i_ (seen.length : Int)), (31, i_ z), (71, .bool bf)] /\ av = aR) (fun _ a_ => ?_) (fun α aR hM => ?_)
     ·refine ZJ [0, 1, 2, 3, 4, 5, 6, 7, 8, 9, 10, 11, 12, 13, 14, 15, 16, 17, 18, 19, 20, 21] (by kernel_rfl) ?_
      refine es_ 2 ?_
      obtain ⟨ab, cy⟩ := Zb bU
      have bt := (ap.djn (aI.lt.le aN))
      have ak := (((((aI.ext Y).fr X (aj.djn aI.lt)).fr ac dn_).ext ai).fr am bt)
      refine m_' (elp V 4 J.toNat 0) (ZB Tryz.prog 23 V (.int .u32 J)) (ak.idxb (by kernel_rfl) ab.1 ab.2) (m_' (elp V 4 J.toNat 0) (ZS Tryz.prog 62 (elp V 4 J.toNat 0) 0) (Sq.fldq (d := 0) ak ab.1 ab.2 (by kernel_rfl)) (me_ 60 0 (.int .u32 ((gt Z J).1)) ak ab.1 ab.2 ?_))
      obtain ⟨bE, bk⟩ := Zb cy
      refine d_w ((gt Z J).1) (k := .i64) (x := (gt Z J).1) (by kernel_rfl) (Zn bE) ?_
      refine es_ 1 ?_
      refine db_ (((gt Z J).1) = at_) (fun aF => ?_) fun aF => ?_
      ·have cz := Zf aF bk
       refine es_ 2 (mr_ 35 1 (.int .u64 ((gt seen z).2.1)) az (es_ 2 (m_' (elp V 4 J.toNat 0) (ZB Tryz.prog 23 V (.int .u32 J)) (ak.idxb (by kernel_rfl) ab.1 ab.2) (m_' (elp V 4 J.toNat 1) (ZS Tryz.prog 62 (elp V 4 J.toNat 0) 1) (Sq.fldq (d := 1) ak ab.1 ab.2 (by kernel_rfl)) (me_ 35 1 (.int .u64 ((gt Z J).2.1)) ak ab.1 ab.2 ?_)))))
       obtain ⟨bF, cA⟩ := Zb cz
       refine d_w ((((gt seen z).2.1) + ((gt Z J).2.1))) (k := .u64) (x := (((gt seen z).2.1) + ((gt Z J).2.1))) (by kernel_rfl) (Zag bF) ?_
       refine es_ 2 ?_
       have cn := (t_ X.n ac.n)
       have bu := (ap.djn (aM.ltF.le cn))
       have cT := (((ck.frS ac dn_).ext ai).frS am bu)
       refine m_' (.int .u64 ((ag at_).getD 0)) (ZdF Tryz.prog 255 (.map (some aa)) (i_ at_) false av) (cT.look (by kernel_rfl) _) (es_ 2 ?_)
       refine ZE ?_
       obtain rfl := oi_ cA
       exact a_ _ _ ⟨ha_, rfl⟩
      have cB := Zj aF bk
      refine es_ 14 ?_
      refine ZE ?_
      obtain rfl := oi_ cB
      exact a_ _ _ ⟨ha_, rfl⟩
     obtain ⟨a1, rfl⟩ := hM
     obtain ⟨β, rfl⟩ := Zi a1
     clear a1
     refine b5 _ _ ?_
     refine wb_ (bf) (fun aG => ?_) fun aG => ?_
     ·have cC := Zf aG bj
      refine sq_ fun b6 => g_' (qs_ 1 (lr_ 3 0 (i_ ((gt seen z).1)) az (qs_ 1 ?_)))
      obtain ⟨bG, cD⟩ := Zb cC
      refine w_' (J) (Zn bG) (qs_ 2 (Za (b6 _ _ ?_)))
      refine Zp (ZI (Zk (Zk (ZI (Zk (ZI (Zk (Zk (ZI (Zk (Zk ?_)))))))))))
      obtain ⟨c6, a8, bW⟩ := map_some cD
      subst bW
      obtain rfl := Zw aK
      have bQ := elim_inl bh
      rw [bQ] at a8
      obtain ⟨c7, a9, bX⟩ := map_some a8
      subst bX
      obtain rfl := Zw aL
      have bR := elim_inl bm
      rw [bR] at a9
      refine br_ [i_ ((gt seen z).1), i_ J] ?_
      obtain rfl := oi_ a9
      exact ⟨rfl, (fs_ af ((fs_ af (fs_ af ((f0_ af).extR Y) X (aj.fresh (Nat.le_refl _))) ac in_).extR ai) am (ap.fresh aN))⟩
     have cE := ZL aG bj
     refine Zg (b4 _ _ (g_' (qs_ 1 ?_)))
     obtain ⟨bH, cF⟩ := Zb cE
     refine s_w ((J + 1)) (k := .u32) (x := (J + 1)) (by kernel_rfl) (ZcX bH) ?_
     refine qs_ 1 (Za ?_)
     obtain rfl := oi_ cF
     exact b1 cm _ _ lt_ ⟨(J + 1), aK, ha_, rfl⟩
    have cG := Zj aE bi
    refine ZA (Zm (Zm (ZK ?_)))
    obtain rfl := oi_ cG
    obtain rfl := Zw aK
    exact b0 _ _ ⟨_, rfl, ha_, rfl⟩
   obtain ⟨be, rfl, aZ, rfl⟩ := hM
   have cH := elim_inr bh
   obtain ⟨β, rfl⟩ := Zi aZ
   clear aZ
   refine ch _ _ (g_' ?_)
   obtain ⟨bI, cI⟩ := Zb cH
   refine w_' ((z + 1)) (Zn (by have := bI; omega)) (qs_ 1 (Za ?_))
   obtain rfl := oi_ cI
   exact cf cp _ _ lt_ ⟨(z + 1), aL, ha_, (fs_ X.wf ((fs_ X.wf (fr_ X.wf) ac in_).extR ai) am (ap.fresh ac.n))⟩
  have cJ := Zj ao au
  refine ZA (Zm (Zm (ZK ?_)))
  obtain rfl := oi_ cJ
  obtain rfl := Zw aL
  exact ce _ _ ⟨_, rfl, ha_, (fs_ X.wf (fr_ X.wf) ac in_)⟩
 obtain ⟨bg, rfl, a4, bz⟩ := hM
 have cK := elim_inr bm
 obtain ⟨β, rfl⟩ := Zi a4
 clear a4
 refine cc _ _ (sn_ ?_)
 refine Zp ?_
 refine br_ [i_ at_, i_ 0] ?_
 obtain rfl := oi_ cK
 exact ⟨rfl, (fs_ af (fs_ af ((f0_ af).extR Y) X (aj.fresh (Nat.le_refl _))) bz in_)⟩
theorem ZhN {H : AH} {al : Value} {cl : Fp} {ai : Value} {cn : Fp} {ad : Value} {cm : Fp} {ah : Value} {ck : Fp} {ag : Value} {cj : Fp} {bb : List (Int)} {aw : List (Int)} {Y : List (Int × Int × Int × Int)} {au : List (Int)} {aq : List (Int × Int × Int × Int)} {s : Int} {top : Int} {t : Int} {r : List (Int) × Er}
    (X : WF H) (bi : Sq (Zh .u32) 1 H al bb cl) (bj : Sq (Zh .u32) 1 H ai aw cn) (aR : Sq Ze 4 H ad Y cm) (aQ : Sq (Zh .u32) 1 H ah au ck) (aP : Sq Ze 4 H ag aq cj) (bv : Zde bb aw Y au aq s top t = some r) :
    ACalls Tryz.prog 55 #[.agg #[al, ai, ad, ah, ag], i_ s, i_ top, i_ t] H fun v H' => ∃ (bO : Value) (aJ : Fp) (bY : Value) (aK : Fp), v = .tuple #[bO, bY] /\ FrS [] H H' /\ Ow (Zh .i64) 1 H' bO r.1 aJ /\ Ev 92 195 H' bY r.2 aK /\ Inn [] H aJ /\ Inn [] H aK /\ Dj aJ aK := by
 refine ab_ Tryz.func55 ?_
 unfold Zde at bv
 refine sq_ fun cK => g_' ?_
 refine Z3 X [al, ai, ad, ah, ag] (Zd (bi.one1) (Zd (bj.one1) (Zd (aR.one1) (Zd (aQ.one1) (Zd (aP.one1) (ZN)))))) (by kernel_rfl) fun aH dK O d2 aZ => ?_
 refine qs_ 2 (Za (cK _ _ (sq_ fun cP => g_' (lr_ 25 0 (.agg #[al, ai, ad, ah, ag]) aZ (qs_ 1 ?_)))))
 have bQ := (bi.ext O)
 have bR := (bj.ext O)
 have bS := (aR.ext O)
 have bT := (aQ.ext O)
 have bU := (aP.ext O)
 obtain ⟨bZ, cC, bM⟩ := bs_ bv
 refine ck_ (Zfc O.wf bQ bR bS bT bU cC) ?_
 rintro _ dP ⟨eb, d0, ed, ch, rfl, J, bA, bB, d4, cG, dW⟩
 obtain ⟨b4, c9, b8, rfl⟩ := bA.form
 refine qs_ 5 (Za (cP _ _ (sq_ fun cU => sq_ fun bw => g_' (qs_ 1 ?_))))
 rcases (bB).cases with ⟨aN, rfl⟩ | ⟨aN, a4, a9, rfl⟩
 ·have dr := Zf aN bM
  refine qs_ 1 (Za (bw _ _ ?_))
  refine wb_ false (fun h => by cases h) fun _ => ?_
  refine Zg (cU _ _ (sq_ fun cV => g_' ?_))
  have a7 := (aZ.frS J dn_)
  refine lr_ 25 0 (.agg #[al, ai, ad, ah, ag]) a7 (qs_ 1 ?_)
  have dF := (bQ.fr J dn_)
  have bV := (bR.fr J dn_)
  have a8 := (bS.fr J dn_)
  have bW := (bT.fr J dn_)
  have bX := (bU.fr J dn_)
  obtain ⟨b0, cD, bN⟩ := bs_ dr
  refine ck_ (ZfO J.wf dF bV a8 bW bX cD) ?_
  rintro _ av ⟨ec, d1, ee, ci, rfl, z, aV, bC, d5, cH, dX⟩
  obtain ⟨aG, aX, aI, rfl⟩ := aV.form
  refine qs_ 5 (Za (cV _ _ (sq_ fun cW => sq_ fun bx => g_' (qs_ 1 ?_))))
  rcases (bC).cases with ⟨aO, rfl⟩ | ⟨aO, a5, a_, rfl⟩
  ·have dt := Zf aO bN
   refine qs_ 1 (Za (bx _ _ ?_))
   refine wb_ false (fun h => by cases h) fun _ => ?_
   refine Zg (cW _ _ (sn_ (sq_ fun cX => sn_ ?_)))
   obtain ⟨aY, cz, du⟩ := bs_ dt
   refine Zv (fun α ac => ∃ (a3 : Value) (ab : Fp), Has α [(2, i_ top), (3, i_ t), (4, pt_ aH 0), (12, .slice aG aX aI), (13, a3)] /\ FrS [] av ac /\ Ow (Zh .i64) 1 ac a3 aY ab /\ Inn [] av ab) (fun _ cY => ?_) (fun α ac hM => ?_)
   ·refine Zl ?_
    obtain ⟨bK, cx⟩ := Zr.1 cz
    refine Zy (fun n α aF => ∃ (ao : List (Int)), ∃ (at1 : Int), ∃ (a0 : Value), ∃ (az : Fp), ZD (fun zz_ => Zck aw Y s bZ zz_.1 zz_.2) n (ao, at1) = some aY /\ Has α [(1, i_ s), (2, i_ top), (3, i_ t), (4, pt_ aH 0), (10, .slice b4 c9 b8), (12, .slice aG aX aI), (13, a0), (14, i_ at1)] /\ FrS [] av aF /\ Ow (Zh .i64) 1 aF a0 ao az /\ Inn [] av az) bK ⟨[], top, (.slice none 0 0), [], cx, ha_, (fr_ z.wf), (Ow.nil (by decide)), in_⟩ ?_
    rintro bK α aF ⟨ao, at1, a0, az, cu, bl, Z, aT, cE⟩ dQ cI
    obtain ⟨cZ, dG, rfl, am, bt⟩ := Zt cu
    obtain ⟨β, rfl⟩ := Zi bl
    clear bl
    replace am : Zck aw Y s bZ ao at1 = some dG := am
    unfold Zck at am
    obtain ⟨b1, c0, b5, rfl⟩ := aT.form
    refine sq_ fun cJ => sn_ ?_
    refine ZcS (at1 = s) (by kernel_rfl) rfl (fun aL => ?_) (fun aL => ?_)
    ·have db := Zj aL am
     refine Zg (cJ _ _ (Zl (sq_ fun cL => g_' (qs_ 1 ?_))))
     have bP := ((a7.frS z dn_).frS Z dn_)
     refine lr_ 22 1 (ai) bP (qs_ 1 (lr_ 23 2 (ad) bP (qs_ 2 ?_)))
     have dv := ((bV.fr z dn_).fr Z dn_)
     have dw := ((a8.fr z dn_).fr Z dn_)
     have dx := ((bA.fr z dn_).fr Z dn_)
     obtain ⟨ba, cA, dc⟩ := bs_ db
     refine ck_ (Zfm Z.wf dv dw dx.sq cA) ?_
     rintro _ dI ⟨rfl, ak⟩
     refine qs_ 5 (Za (cL _ _ (sq_ fun cM => g_' (qs_ 1 ?_))))
     refine ZaK (enc := (Zh .i64)) (sz := 1) ak.wf [ba.2] 1 (by decide) (fun _ _ => rfl) (fun _ _ => rfl) rfl (by kernel_rfl) fun d8 dY dJ ax bk bp => ?_
     obtain ⟨dS, d6, dU, rfl⟩ := bp.form
     refine qs_ 1 ?_
     obtain ⟨co, dd⟩ := Zb dc
     have dy := ((aT.fr ak dn_).ext ax)
     obtain ⟨d9, dL, cf, c_, cc, bq, cr⟩ := Ow.append (P := Tryz.prog) 8 ax.wf bp dy.sq (fun _ _ => rfl) (at_ := #[38, 38]) rfl rfl (by kernel_rfl) (by kernel_rfl) (by decide) (by have := co; first | omega | (simp only [List.length_cons, List.length_nil] at this ⊢; omega) | (simp at this ⊢; omega))
     obtain ⟨bc, bE, bf, rfl⟩ := bq.form
     refine ZbX (.slice bc bE bf) (by kernel_rfl) (c_) ?_
     refine qs_ 1 (Za (cM _ _ (g_' (qs_ 2 (Za ?_)))))
     have bF := (t_ Z.n ak.n)
     have c1 := (t_ (t_ Z.n ak.n) ax.n)
     obtain rfl := oi_ dd
     exact cI cZ _ _ lt_ ⟨([ba.2] ++ ao), ba.1, (.slice bc bE bf), cf, bt, ha_, (fs_ z.wf ((fs_ z.wf (fs_ z.wf (fr_ z.wf) Z in_) ak in_).extR ax) cc (bk.fresh bF)), bq, (Inn.trans (bk.fresh bF) c1 cr)⟩
    have de := Zf aL am
    refine ZA (Zm (Zm (ZK ?_)))
    obtain rfl := oi_ de
    obtain rfl := Zw bt
    exact cY _ _ ⟨(.slice b1 c0 b5), az, ha_, (fs_ z.wf (fr_ z.wf) Z in_), aT, (cE.fresh (Nat.le_refl _))⟩
   obtain ⟨a3, ab, bo, V, bD, ae⟩ := hM
   obtain ⟨β, rfl⟩ := Zi bo
   clear bo
   obtain ⟨b2, c2, b6, rfl⟩ := bD.form
   refine cX _ _ (sq_ fun cN => sn_ ?_)
   obtain ⟨bL, cy, df⟩ := bs_ du
   refine Zv (fun α aD => ∃ (a1 : Value) (aA : Fp), Has α [(13, a1)] /\ FrS ab ac aD /\ Ow (Zh .i64) 1 aD a1 bL aA /\ Inn ab ac aA) (fun _ cO => ?_) (fun α aD hM => ?_)
   ·refine Zl ?_
    obtain ⟨bG, cw⟩ := Zr.1 cy
    refine Zy (fun n α aE => ∃ (ap : List (Int)), ∃ (aj : Int), ∃ (a2 : Value), ∃ (aB : Fp), ZD (fun zz_ => Zcu Y au aq t b0 zz_.1 zz_.2) n (ap, aj) = some bL /\ Has α [(3, i_ t), (4, pt_ aH 0), (12, .slice aG aX aI), (13, a2), (17, i_ aj)] /\ FrS ab ac aE /\ Ow (Zh .i64) 1 aE a2 ap aB /\ Inn ab ac aB) bG ⟨aY, top, (.slice b2 c2 b6), ab, cw, ha_, (fr_ V.wf), bD, ir_⟩ ?_
    rintro bG α aE ⟨ap, aj, a2, aB, cv, bn, aa, aU, aS⟩ dR cQ
    obtain ⟨c3, dH, rfl, an, bu⟩ := Zt cv
    obtain ⟨β, rfl⟩ := Zi bn
    clear bn
    replace an : Zcu Y au aq t b0 ap aj = some dH := an
    unfold Zcu at an
    obtain ⟨b3, c4, b7, rfl⟩ := aU.form
    refine sq_ fun cR => sn_ ?_
    refine ZcS (aj = t) (by kernel_rfl) rfl (fun aM => ?_) (fun aM => ?_)
    ·have dg := Zj aM an
     refine Zg (cR _ _ (Zl (sq_ fun cS => g_' (qs_ 1 ?_))))
     have c5 := (t_ J.n z.n)
     have b9 := (ae.djn (aZ.ltF.le c5))
     have a6 := (((a7.frS z dn_).frS V dn_).frS aa b9)
     refine lr_ 22 3 (ah) a6 (qs_ 1 (lr_ 23 4 (ag) a6 (qs_ 2 ?_)))
     have aW := (t_ (t_ O.n J.n) z.n)
     have b_ := (ae.djn (aQ.lt.le aW))
     have dz := (((bW.fr z dn_).fr V dn_).fr aa b_)
     have ca := (ae.djn (aP.lt.le aW))
     have dA := (((bX.fr z dn_).fr V dn_).fr aa ca)
     have dB := ((aV.fr V dn_).fr aa (ae.djn aV.lt))
     obtain ⟨aC, cB, dh⟩ := bs_ dg
     refine ck_ (Zfm aa.wf dz dA dB.sq cB) ?_
     rintro _ dM ⟨rfl, af⟩
     refine qs_ 5 (Za (cS _ _ (sq_ fun cT => g_' (qs_ 2 ?_))))
     have dC := (a6.frS af dn_)
     refine lr_ 23 2 (ad) dC ?_
     have cb := (ae.djn (aR.lt.le aW))
     have dD := ((((a8.fr z dn_).fr V dn_).fr aa cb).fr af dn_)
     refine dD.ln_ 23 (qs_ 1 ?_)
     obtain ⟨cp, di⟩ := Zb dh
     refine w_' (((Y.length : Int) + aC.2)) (Zn cp) ?_
     refine ZaK (enc := (Zh .i64)) (sz := 1) af.wf [((Y.length : Int) + aC.2)] 1 (by decide) (fun _ _ => rfl) (fun _ _ => rfl) rfl (by kernel_rfl) fun d_ dZ dN ay d3 br => ?_
     obtain ⟨dT, d7, dV, rfl⟩ := br.form
     have dE := ((aU.fr af dn_).ext ay)
     obtain ⟨cq, dk⟩ := Zb di
     obtain ⟨ea, dO, cg, da, ce, bs, ct⟩ := Ow.append (P := Tryz.prog) 8 ay.wf dE br.sq (fun _ _ => rfl) (at_ := #[38, 38]) rfl rfl (by kernel_rfl) (by kernel_rfl) (by decide) (by have := cq; first | omega | (simp only [List.length_cons, List.length_nil] at this ⊢; omega) | (simp at this ⊢; omega))
     obtain ⟨bd, bH, bg, rfl⟩ := bs.form
     refine ZbX (.slice bd bH bg) (by kernel_rfl) (da) ?_
     refine qs_ 1 (Za (cT _ _ (g_' (qs_ 2 (Za ?_)))))
     have c6 := (t_ (t_ aa.n af.n) ay.n)
     obtain rfl := oi_ dk
     exact cQ c3 _ _ lt_ ⟨(ap ++ [((Y.length : Int) + aC.2)]), aC.1, (.slice bd bH bg), cg, bu, ha_, (fs_ V.wf ((fs_ V.wf (fs_ V.wf (fr_ V.wf) aa ir_) af in_).extR ay) ce (Inn.trans ir_ (Nat.le_refl _) aS)), bs, (Inn.trans (Inn.trans ir_ (Nat.le_refl _) aS) c6 ct)⟩
    have dm := Zf aM an
    refine ZA (Zm (Zm (ZK ?_)))
    obtain rfl := oi_ dm
    obtain rfl := Zw bu
    exact cO _ _ ⟨(.slice b3 c4 b7), aB, ha_, (fs_ V.wf (fr_ V.wf) aa ir_), aU, (Inn.trans ir_ (Nat.le_refl _) aS)⟩
   obtain ⟨a1, aA, bm, cd, bz, cF⟩ := hM
   obtain ⟨β, rfl⟩ := Zi bm
   clear bm
   obtain ⟨be, bI, bh, rfl⟩ := bz.form
   refine cN _ _ (sn_ ?_)
   refine Zp ?_
   refine br_ [.slice be bI bh, .nilIface] ?_
   have bJ := (t_ (t_ O.n J.n) z.n)
   have c7 := (t_ (t_ (t_ O.n J.n) z.n) V.n)
   obtain rfl := oi_ df
   exact ⟨(.slice be bI bh), aA, (.nilIface), [], rfl, (fs_ X (fs_ X (fs_ X (fs_ X ((f0_ X).extR O) J in_) z in_) V in_) cd (ae.fresh bJ)), bz, Ev.nil, (Inn.trans (ae.fresh bJ) c7 cF), in_, Dj.nil_r⟩
  have dp := Zj aO bN
  refine l_' (.bool true) (Zaw Tryz.prog .neq 33 (.tmp 35) (.const .nilIface) (.iface a5 a_) .nilIface) (ZU (by kernel_rfl)) (Za (bx _ _ ?_))
  refine wb_ true (fun _ => ?_) fun h => by cases h
  refine sn_ ?_
  refine Zp (Zk ?_)
  refine br_ [.slice none 0 0, .iface a5 a_] ?_
  have c8 := (t_ O.n J.n)
  obtain rfl := oi_ dp
  exact ⟨(.slice none 0 0), [], (.iface a5 a_), ci, rfl, (fs_ X (fs_ X ((f0_ X).extR O) J in_) z in_), (Ow.nil (by decide)), bC, in_, (cH.fresh c8), dn_⟩
 have dq := Zj aN bM
 refine l_' (.bool true) (Zaw Tryz.prog .neq 33 (.tmp 26) (.const .nilIface) (.iface a4 a9) .nilIface) (ZU (by kernel_rfl)) (Za (bw _ _ ?_))
 refine wb_ true (fun _ => ?_) fun h => by cases h
 refine sn_ ?_
 refine Zp (Zk ?_)
 refine br_ [.slice none 0 0, .iface a4 a9] ?_
 obtain rfl := oi_ dq
 exact ⟨(.slice none 0 0), [], (.iface a4 a9), ch, rfl, (fs_ X ((f0_ X).extR O) J in_), (Ow.nil (by decide)), bB, in_, (cG.fresh O.n), dn_⟩
theorem Zfp {H : AH} {af : Value} {aB : Fp} {ag : Value} {aD : Fp} {X : Value} {aC : Fp} {ae : Value} {aA : Fp} {ab : Value} {az : Fp} {aj : List (Int)} {ak : List (Int)} {z : List (Int × Int × Int × Int)} {ai : List (Int)} {J : List (Int × Int × Int × Int)} {i : Int} {r : Int × Int × Int × Int}
    (Z : WF H) (aG : Sq (Zh .u32) 1 H af aj aB) (aH : Sq (Zh .u32) 1 H ag ak aD) (ao : Sq Ze 4 H X z aC) (aF : Sq (Zh .u32) 1 H ae ai aA) (an : Sq Ze 4 H ab J az) (ah : ZcA aj ak z ai J i = some r) :
    ACalls Tryz.prog 110 #[.agg #[af, ag, X, ae, ab], i_ i] H fun v H' => v = .agg #[.int .u32 r.1, .int .u64 r.2.1, .int .u32 r.2.2.1, .int .u32 r.2.2.2] /\ FrS [] H H' := by
 refine ab_ Tryz.func110 ?_
 unfold ZcA at ah
 refine sq_ fun aI => g_' ?_
 refine Z3 Z [af, ag, X, ae, ab] (Zd (aG.one1) (Zd (aH.one1) (Zd (ao.one1) (Zd (aF.one1) (Zd (an.one1) (ZN)))))) (by kernel_rfl) fun aZ aX V a0 aW => ?_
 refine rk_ V.wf [.int .u32 0, .int .u64 0, .int .u32 0, .int .u32 0] fun al aY O ap aq => ?_
 refine Za (aI _ _ (sq_ fun aJ => sq_ fun aK => g_' (qs_ 2 ?_)))
 have ac := (aW.ext O)
 refine lr_ 23 2 (X) ac ?_
 have ad := ((ao.ext V).ext O)
 refine ad.ln_ 23 (qs_ 1 (Za (aK _ _ ?_)))
 refine wc_ (i < (z.length : Int)) (fun Y => ?_) fun Y => ?_
 ·have aP := Zf Y ah
  refine sq_ fun aL => g_' (qs_ 1 (lr_ 23 2 (X) ac (qs_ 1 ?_)))
  obtain ⟨am, aQ⟩ := Zb aP
  refine ad.ix_ 23 am Y (le_ 62 0 (.agg #[.int .u32 ((gt z i).1), .int .u64 ((gt z i).2.1), .int .u32 ((gt z i).2.2.1), .int .u32 ((gt z i).2.2.2)]) ad am Y ?_)
  obtain ⟨av, aN, ax, aR⟩ := ra_ 62 0 O.wf aq [.int .u32 ((gt z i).1), .int .u64 ((gt z i).2.1), .int .u32 ((gt z i).2.2.1), .int .u32 ((gt z i).2.2.2)] [.int .u32 ((gt z i).1), .int .u64 ((gt z i).2.1), .int .u32 ((gt z i).2.2.1), .int .u32 ((gt z i).2.2.2)]
  refine ek_ aN (Za (aL _ _ ?_))
  refine Zp (Zk ?_)
  refine ZX (vs := [.agg #[.int .u32 ((gt z i).1), .int .u64 ((gt z i).2.1), .int .u32 ((gt z i).2.2.1), .int .u32 ((gt z i).2.2.2)]]) (ZC (Eq.trans (b := aL_ 62 (pt_ al 0) av) (by kernel_rfl) (aR.l_)) (rfl)) ?_
  obtain rfl := oi_ aQ
  exact ⟨rfl, (fs_ Z (((f0_ Z).extR V).extR O) ax (ap.fresh V.n))⟩
 have aS := Zj Y ah
 refine Zg (aJ _ _ (sq_ fun aM => g_' (qs_ 1 (lr_ 23 4 (ab) ac (qs_ 2 (lr_ 23 2 (X) ac (ad.ln_ 23 ?_)))))))
 obtain ⟨aE, aT⟩ := Zb aS
 refine w_' ((i - (z.length : Int))) (Zn aE) ?_
 obtain ⟨aa, aU⟩ := Zb aT
 have au := ((an.ext V).ext O)
 refine au.ix_ 23 aa.1 aa.2 (le_ 62 0 (.agg #[.int .u32 ((gt J (i - (z.length : Int))).1), .int .u64 ((gt J (i - (z.length : Int))).2.1), .int .u32 ((gt J (i - (z.length : Int))).2.2.1), .int .u32 ((gt J (i - (z.length : Int))).2.2.2)]) au aa.1 aa.2 ?_)
 obtain ⟨aw, aO, ay, aV⟩ := ra_ 62 0 O.wf aq [.int .u32 ((gt J (i - (z.length : Int))).1), .int .u64 ((gt J (i - (z.length : Int))).2.1), .int .u32 ((gt J (i - (z.length : Int))).2.2.1), .int .u32 ((gt J (i - (z.length : Int))).2.2.2)] [.int .u32 ((gt J (i - (z.length : Int))).1), .int .u64 ((gt J (i - (z.length : Int))).2.1), .int .u32 ((gt J (i - (z.length : Int))).2.2.1), .int .u32 ((gt J (i - (z.length : Int))).2.2.2)]
 refine ek_ aO (Za (aM _ _ ?_))
 refine Zp ?_
 refine ZX (vs := [.agg #[.int .u32 ((gt J (i - (z.length : Int))).1), .int .u64 ((gt J (i - (z.length : Int))).2.1), .int .u32 ((gt J (i - (z.length : Int))).2.2.1), .int .u32 ((gt J (i - (z.length : Int))).2.2.2)]]) (ZC (Eq.trans (b := aL_ 62 (pt_ al 0) aw) (by kernel_rfl) (aV.l_)) (rfl)) ?_
 obtain rfl := oi_ aU
 exact ⟨rfl, (fs_ Z (((f0_ Z).extR V).extR O) ay (ap.fresh V.n))⟩
theorem Zil {H : AH} {aJ : Value} {cq : Fp} {aL : Value} {ct : Fp} {aK : Value} {cr : Fp} {aI : Value} {cp : Fp} {aH : Value} {co : Fp} {a2 : Value} {cu : Fp} {ay : List (Int)} {aA : List (Int)} {az : List (Int × Int × Int × Int)} {av : List (Int)} {au : List (Int × Int × Int × Int)} {ac : List (Int)} {r : List (Int) × Er}
    (ad : WF H) (aZ : Sq (Zh .u32) 1 H aJ ay cq) (a1 : Sq (Zh .u32) 1 H aL aA ct) (a0 : Sq Ze 4 H aK az cr) (aY : Sq (Zh .u32) 1 H aI av cp) (aX : Sq Ze 4 H aH au co) (cE : Sq (Zh .i64) 1 H a2 ac cu) (bH : Zdo ay aA az av au ac = some r) :
    ACalls Tryz.prog 56 #[.agg #[aJ, aL, aK, aI, aH], a2] H fun v H' => ∃ (bZ : Value) (aR : Fp) (b3 : Value) (aS : Fp), v = .tuple #[bZ, b3] /\ FrS [] H H' /\ Ow (Zh .i64) 1 H' bZ r.1 aR /\ Ev 92 195 H' b3 r.2 aS /\ Inn [] H aR /\ Inn [] H aS /\ Dj aR aS := by
 refine ab_ Tryz.func56 ?_
 unfold Zdo at bH
 refine sq_ fun cR => g_' ?_
 refine Z3 ad [aJ, aL, aK, aI, aH] (Zd (aZ.one1) (Zd (a1.one1) (Zd (a0.one1) (Zd (aY.one1) (Zd (aX.one1) (ZN)))))) (by kernel_rfl) fun aQ ax z es bV => ?_
 refine qs_ 2 (Za (cR _ _ (sn_ (sq_ fun c0 => sq_ fun c1 => g_' (qs_ 1 ?_)))))
 have b0 := (cE.ext z)
 refine b0.ln_ 38 ?_
 obtain ⟨cA, dG⟩ := Zb bH
 refine w_' (((ac.length : Int) - 1)) (Zn cA) (qs_ 1 (Za (c1 _ _ ?_)))
 obtain ⟨a7, cL, dJ⟩ := bs_ dG
 refine Zv (fun α ae => ∃ (bc : Value) (ag : Fp), Has α [(2, pt_ aQ 0), (6, .slice none 0 0), (7, bc)] /\ FrS [] ax ae /\ Ow (Zh .i64) 1 ae bc a7 ag /\ Inn [] ax ag) (fun _ c4 => ?_) (fun α ae hM => ?_)
 ·refine Zl ?_
  obtain ⟨bT, cJ⟩ := Zr.1 cL
  refine Zy (fun n α aP => ∃ (stack0 : List (Int)), ∃ (aa : Int), ∃ (bd : Value), ∃ (aE : Fp), ZD (fun zz_ => ZbW ac zz_.1 zz_.2) n (stack0, aa) = some a7 /\ Has α [(1, a2), (2, pt_ aQ 0), (6, .slice none 0 0), (7, bd), (8, i_ aa)] /\ FrS [] ax aP /\ Ow (Zh .i64) 1 aP bd stack0 aE /\ Inn [] ax aE) bT ⟨[], ((ac.length : Int) - 1), (.slice none 0 0), [], cJ, ha_, (fr_ z.wf), (Ow.nil (by decide)), in_⟩ ?_
  rintro bT α aP ⟨stack0, aa, bd, aE, cH, bz, an, a6, a5⟩ ec c5
  obtain ⟨dg, d2, rfl, aq, bG⟩ := Zt cH
  obtain ⟨β, rfl⟩ := Zi bz
  clear bz
  replace aq : ZbW ac stack0 aa = some d2 := aq
  unfold ZbW at aq
  obtain ⟨b5, dh, b7, rfl⟩ := a6.form
  refine sq_ fun c6 => sn_ ?_
  refine wc_ (aa ≥ 0) (fun aW => ?_) fun aW => ?_
  ·have dL := Zf aW aq
   refine Zg (c6 _ _ (sq_ fun c7 => Zl (g_' (qs_ 3 ?_))))
   obtain ⟨aG, dM⟩ := Zb dL
   have b2 := (b0.fr an dn_)
   refine b2.ix_ 38 aG.1 aG.2 (le_ 3 0 (i_ (gt ac aa)) b2 aG.1 aG.2 ?_)
   refine ZaK (enc := (Zh .i64)) (sz := 1) an.wf [(gt ac aa)] 1 (by decide) (fun _ _ => rfl) (fun _ _ => rfl) rfl (by kernel_rfl) fun eG eq d_ aC ev bE => ?_
   obtain ⟨eg, eA, em, rfl⟩ := bE.form
   have d0 := (a6.ext aC)
   obtain ⟨cC, dN⟩ := Zb dM
   obtain ⟨eH, ea, cn, dt, ck, bF, cF⟩ := Ow.append (P := Tryz.prog) 8 aC.wf d0 bE.sq (fun _ _ => rfl) (at_ := #[38, 38]) rfl rfl (by kernel_rfl) (by kernel_rfl) (by decide) (by have := cC; first | omega | (simp only [List.length_cons, List.length_nil] at this ⊢; omega) | (simp at this ⊢; omega))
   obtain ⟨bj, bU, bp, rfl⟩ := bF.form
   refine ZbX (.slice bj bU bp) (by kernel_rfl) (dt) ?_
   refine qs_ 1 (Za (c7 _ _ (g_' (qs_ 1 ?_))))
   obtain ⟨cD, dO⟩ := Zb dN
   refine w_' ((aa - 1)) (Zn cD) (qs_ 1 (Za ?_))
   have di := (t_ an.n aC.n)
   obtain rfl := oi_ dO
   exact c5 dg _ _ lt_ ⟨(stack0 ++ [(gt ac aa)]), (aa - 1), (.slice bj bU bp), cn, bG, ha_, (fs_ z.wf ((fs_ z.wf (fr_ z.wf) an in_).extR aC) ck (a5.fresh (Nat.le_refl _))), bF, (Inn.trans (a5.fresh (Nat.le_refl _)) di cF)⟩
  have dP := Zj aW aq
  refine ZA (Zm (Zm (ZK ?_)))
  obtain rfl := oi_ dP
  obtain rfl := Zw bG
  exact c4 _ _ ⟨(.slice b5 dh b7), aE, ha_, (fs_ z.wf (fr_ z.wf) an in_), a6, (a5.fresh (Nat.le_refl _))⟩
 obtain ⟨bc, ag, bx, J, bL, af⟩ := hM
 obtain ⟨β, rfl⟩ := Zi bx
 clear bx
 obtain ⟨b6, dk, b8, rfl⟩ := bL.form
 refine c0 _ _ (sq_ fun c8 => ?_)
 obtain ⟨b4, cM, bY⟩ := bs_ dJ
 refine Zv (fun α aO => ∃ a8, b4 = Sum.inr a8 /\ ∃ (a_ : Value) (aD : Fp), Has α [(6, a_)] /\ FrS ag ae aO /\ Ow (Zh .i64) 1 aO a_ a8 aD /\ Inn [] ae aD) (fun _ cQ => ?_) (fun α aO hM => ?_)
 ·refine Zl ?_
  obtain ⟨bM, cI⟩ := Zr.1 cM
  refine Zy (fun n α aw => ∃ (aj : List (Int)), ∃ (stack3 : List (Int)), ∃ (ba : Value), ∃ (am : Fp), ∃ (bb : Value), ∃ (ao : Fp), ZD (fun zz_ => ZcG ay aA az av au zz_.1 zz_.2) n (aj, stack3) = some b4 /\ Has α [(2, pt_ aQ 0), (6, ba), (7, bb)] /\ FrS ag ae aw /\ Ow (Zh .i64) 1 aw ba aj am /\ Ow (Zh .i64) 1 aw bb stack3 ao /\ Inn [] ae am /\ Inn ag ae ao /\ Dj am ao) bM ⟨[], a7, (.slice none 0 0), [], (.slice b6 dk b8), ag, cI, ha_, (fr_ J.wf), (Ow.nil (by decide)), bL, in_, ir_, dn_⟩ ?_
  rintro bM α aw ⟨aj, stack3, ba, am, bb, ao, cG, bw, X, ai, ab, aN, a4, aB⟩ eb bJ
  obtain ⟨bN, d1, rfl, ap, aM⟩ := Zt cG
  obtain ⟨β, rfl⟩ := Zi bw
  clear bw
  replace ap : ZcG ay aA az av au aj stack3 = some d1 := ap
  unfold ZcG at ap
  obtain ⟨be, bO, bk, rfl⟩ := ai.form
  obtain ⟨ed, ew, ej, rfl⟩ := ab.form
  refine sq_ fun cS => sq_ fun cT => g_' (qs_ 1 (ab.sq.ln_ 38 (qs_ 1 (Za (cT _ _ ?_)))))
  refine wc_ ((stack3.length : Int) > 0) (fun aT => ?_) fun aT => ?_
  ·have du := Zf aT ap
   refine Zg (cS _ _ (Zl (sq_ fun cU => g_' (qs_ 2 (ab.sq.ln_ 38 ?_)))))
   obtain ⟨cv, dv⟩ := Zb du
   refine w_' (((stack3.length : Int) - 1)) (Zn cv) ?_
   obtain ⟨aF, dw⟩ := Zb dv
   refine ab.sq.ix_ 38 aF.1 aF.2 (le_ 3 0 (i_ (gt stack3 ((stack3.length : Int) - 1))) ab.sq aF.1 aF.2 (qs_ 1 (Za (cU _ _ (sq_ fun cV => g_' (qs_ 2 (ab.sq.ln_ 38 ?_)))))))
   obtain ⟨cw, dx⟩ := Zb dw
   refine w_' (((stack3.length : Int) - 1)) (Zn (by have := cw; omega)) ?_
   obtain ⟨bs, dy⟩ := Zb dx
   obtain ⟨eB, dm, a3⟩ := Ow.head (P := Tryz.prog) ab (t := 38) (by kernel_rfl) (hi := (some (i_ ((stack3.length : Int) - 1)))) (r := ((stack3.length : Int) - 1).toNat) (ZQ _ (by have := bs; omega)) (by have := bs; omega)
   obtain ⟨bf, bP, bl, rfl⟩ := a3.form
   refine Zc5 (.slice bf bP bl) (by kernel_rfl) dm ?_
   refine qs_ 1 (Za (cV _ _ (sq_ fun cW => g_' ?_)))
   have dQ := ((bV.frS J dn_).frS X (af.djn bV.ltF))
   refine lr_ 25 0 (.agg #[aJ, aL, aK, aI, aH]) dQ (qs_ 1 ?_)
   have b9 := (af.djn (aZ.lt.le z.n))
   have dR := (((aZ.ext z).fr J dn_).fr X b9)
   have b_ := (af.djn (a1.lt.le z.n))
   have dS := (((a1.ext z).fr J dn_).fr X b_)
   have ca := (af.djn (a0.lt.le z.n))
   have dT := (((a0.ext z).fr J dn_).fr X ca)
   have cb := (af.djn (aY.lt.le z.n))
   have dU := (((aY.ext z).fr J dn_).fr X cb)
   have cc := (af.djn (aX.lt.le z.n))
   have dV := (((aX.ext z).fr J dn_).fr X cc)
   obtain ⟨V, cN, bW⟩ := bs_ dy
   refine ck_ (Zfp X.wf dR dS dT dU dV cN) ?_
   rintro _ d3 ⟨rfl, O⟩
   refine rk_ O.wf [.int .u32 0, .int .u64 0, .int .u32 0, .int .u32 0] fun eh d4 Z ah dz => ?_
   obtain ⟨d5, dp, Y, a9⟩ := ra_ 62 0 Z.wf dz [.int .u32 V.1, .int .u64 V.2.1, .int .u32 V.2.2.1, .int .u32 V.2.2.2] [.int .u32 V.1, .int .u64 V.2.1, .int .u32 V.2.2.1, .int .u32 V.2.2.2]
   refine ek_ dp (Za (cW _ _ (sq_ fun cX => sq_ fun cY => g_' (qs_ 1 (lr_ 60 2 (.int .u32 V.2.2.1) a9 (qs_ 1 (Za (cY _ _ ?_))))))))
   refine ZcS (V.2.2.1 = 4294967295) (by kernel_rfl) rfl (fun aU => ?_) (fun aU => ?_)
   ·have dA := Zj aU bW
    refine sq_ fun cZ => g_' (qs_ 2 (lr_ 60 3 (.int .u32 V.2.2.2) a9 ?_))
    obtain ⟨cx, dB⟩ := Zb dA
    refine w_' (V.2.2.2) (Zn cx) (qs_ 1 (lr_ 60 2 (.int .u32 V.2.2.1) a9 ?_))
    obtain ⟨cy, dC⟩ := Zb dB
    refine w_' (V.2.2.1) (Zn cy) ?_
    refine ZaK (enc := (Zh .i64)) (sz := 1) Y.wf [V.2.2.2, V.2.2.1] 2 (by decide) (fun _ _ => rfl) (fun _ _ => rfl) rfl (by kernel_rfl) fun eC eo d6 ak et bA => ?_
    obtain ⟨ee, ey, ek, rfl⟩ := bA.form
    have cd := (ah.djn (ab.lt.le O.n))
    have dW := ((((a3.fr O dn_).ext Z).fr Y cd).ext ak)
    obtain ⟨cz, dD⟩ := Zb dC
    obtain ⟨eD, d7, cl, dq, bq, bB, bt⟩ := Ow.append (P := Tryz.prog) 8 ak.wf dW bA.sq (fun _ _ => rfl) (at_ := #[38, 38]) rfl rfl (by kernel_rfl) (by kernel_rfl) (by decide) (by have := cz; first | omega | (simp only [List.length_cons, List.length_nil] at this ⊢; omega) | (simp at this ⊢; omega))
    obtain ⟨bg, bQ, bm, rfl⟩ := bB.form
    refine ZbX (.slice bg bQ bm) (by kernel_rfl) (dq) ?_
    refine qs_ 1 (Za (cZ _ _ ?_))
    refine ZA (Zm (ZK ?_))
    have c9 := (t_ X.n O.n)
    have ce := (ah.djn (ai.lt.le O.n))
    have dX := (((((ai.fr O dn_).ext Z).fr Y ce).ext ak).fr bq (Dj.symm aB))
    have c_ := (t_ (t_ (t_ (t_ X.n O.n) Z.n) Y.n) ak.n)
    have da := (t_ (t_ (t_ O.n Z.n) Y.n) ak.n)
    have cf := (bt.dj (Dj.symm aB) (ai.lt.le da))
    obtain rfl := oi_ dD
    exact bJ bN _ _ lt_ ⟨aj, ((stack3.take ((stack3.length : Int) - 1).toNat) ++ [V.2.2.2, V.2.2.1]), (.slice be bO bk), am, (.slice bg bQ bm), cl, aM, ha_, (fs_ J.wf ((fs_ J.wf ((fs_ J.wf (fs_ J.wf (fr_ J.wf) X ir_) O in_).extR Z) Y (ah.fresh c9)).extR ak) bq (Inn.trans ir_ (Nat.le_refl _) a4)), dX, bB, (aN.fresh (Nat.le_refl _)), (Inn.trans (Inn.trans ir_ (Nat.le_refl _) a4) c_ bt), (Dj.symm cf)⟩
   have bX := Zf aU bW
   refine Zg (cX _ _ (sq_ fun c2 => sq_ fun c3 => g_' (qs_ 1 ?_)))
   have cg := (ah.djn (ai.lt.le O.n))
   have b1 := (((ai.fr O dn_).ext Z).fr Y cg)
   refine b1.sq.ln_ 38 (qs_ 1 (Za (c3 _ _ ?_)))
   refine wc_ ((aj.length : Int) = 131072) (fun aV => ?_) fun aV => ?_
   ·have dE := Zf aV bX
    refine sn_ ?_
    refine Zp (Zk (ZI (Zk (ZI (Zk (Zk ?_))))))
    obtain ⟨eI, bI, cO⟩ := map_some dE
    subst cO
    obtain rfl := Zw aM
    have cK := elim_inl bY
    rw [cK] at bI
    refine br_ [.slice none 0 0, .iface 92 (i_ 2)] ?_
    have db := (t_ (t_ (t_ z.n J.n) X.n) O.n)
    obtain rfl := oi_ bI
    exact ⟨(.slice none 0 0), [], (.iface 92 (i_ 2)), [], rfl, (fs_ ad ((fs_ ad (fs_ ad (fs_ ad ((f0_ ad).extR z) J in_) X (af.fresh z.n)) O in_).extR Z) Y (ah.fresh db)), (Ow.nil (by decide)), Ev.no, in_, in_, dn_⟩
   have dF := Zj aV bX
   refine Zg (c2 _ _ (g_' (qs_ 2 ?_)))
   refine ZaK (enc := (Zh .i64)) (sz := 1) Y.wf [(gt stack3 ((stack3.length : Int) - 1))] 1 (by decide) (fun _ _ => rfl) (fun _ _ => rfl) rfl (by kernel_rfl) fun eE ep d8 al eu bC => ?_
   obtain ⟨ef, ez, el, rfl⟩ := bC.form
   have dY := (b1.ext al)
   obtain ⟨cB, dH⟩ := Zb dF
   obtain ⟨eF, d9, cm, dr, br, bD, bu⟩ := Ow.append (P := Tryz.prog) 8 al.wf dY bC.sq (fun _ _ => rfl) (at_ := #[38, 38]) rfl rfl (by kernel_rfl) (by kernel_rfl) (by decide) (by have := cB; first | omega | (simp only [List.length_cons, List.length_nil] at this ⊢; omega) | (simp at this ⊢; omega))
   obtain ⟨bh, bR, bn, rfl⟩ := bD.form
   refine ZbX (.slice bh bR bn) (by kernel_rfl) (dr) ?_
   refine qs_ 1 (Za ?_)
   have dc := (t_ X.n O.n)
   have ch := (ah.djn (ab.lt.le O.n))
   have dZ := (((((a3.fr O dn_).ext Z).fr Y ch).ext al).fr br aB)
   have dd := (t_ (t_ (t_ (t_ X.n O.n) Z.n) Y.n) al.n)
   have de := (t_ (t_ (t_ O.n Z.n) Y.n) al.n)
   have ci := (bu.dj aB (ab.lt.le de))
   obtain rfl := oi_ dH
   exact bJ bN _ _ lt_ ⟨(aj ++ [(gt stack3 ((stack3.length : Int) - 1))]), (stack3.take ((stack3.length : Int) - 1).toNat), (.slice bh bR bn), cm, (.slice bf bP bl), ao, aM, ha_, (fs_ J.wf ((fs_ J.wf ((fs_ J.wf (fs_ J.wf (fr_ J.wf) X ir_) O in_).extR Z) Y (ah.fresh dc)).extR al) br (aN.fresh (Nat.le_refl _))), bD, dZ, (Inn.trans (aN.fresh (Nat.le_refl _)) dd bu), (Inn.trans ir_ (Nat.le_refl _) a4), ci⟩
  have dI := Zj aT ap
  refine ZA (Zm (Zm (ZK ?_)))
  obtain rfl := oi_ dI
  obtain rfl := Zw aM
  exact cQ _ _ ⟨_, rfl, (.slice be bO bk), am, ha_, (fs_ J.wf (fr_ J.wf) X ir_), ai, (aN.fresh (Nat.le_refl _))⟩
 obtain ⟨a8, rfl, a_, aD, bv, cj, bK, cP⟩ := hM
 have dK := elim_inr bY
 obtain ⟨β, rfl⟩ := Zi bv
 clear bv
 obtain ⟨bi, bS, bo, rfl⟩ := bK.form
 refine c8 _ _ (sn_ ?_)
 refine Zp ?_
 refine br_ [.slice bi bS bo, .nilIface] ?_
 have df := (t_ z.n J.n)
 obtain rfl := oi_ dK
 exact ⟨(.slice bi bS bo), aD, (.nilIface), [], rfl, (fs_ ad (fs_ ad ((f0_ ad).extR z) J in_) cj (af.fresh z.n)), bK, Ev.nil, (cP.fresh df), in_, Dj.nil_r⟩
end Go.Vd
