/- The walks of the functions (printed by a program of ours). -/
import Derived.Test.YtmcecdjpconioaaGreatDoorPsc3
import Derived.Test.YtmcecdjpconioaaGreatDoorPscISc
import Derived.Test.YtmcecdjpconioaaGreatDoorPscVeN
import Derived.Test.YtmcecdjpconioaaGreatDoorPscSoA
import Derived.Test.YtmcecdjpconioaaGreatDoorPscVeV
set_option linter.unusedVariables false
set_option linter.unusedSimpArgs false
set_option linter.unusedSectionVars false
/-! (KSc5) -/

set_option maxRecDepth 100000
set_option maxHeartbeats 4000000
set_option linter.unusedVariables false
namespace Go.Vd
open Go.Proofs
attribute [local irreducible] Zp Zq aWp
theorem Zg6 {H : AH} {ak : Value} {bl : Fp} {O : Int} {Arcs : List (Int × Int × Int)} {r : Int × List (Int × Int × Int)}
    (an : WF H) (aC : Sq Zr 3 H ak Arcs bl) (aS : ZcG O Arcs = some r) :
    ACalls Tryz.prog 66 #[.agg #[i_ O, ak]] H fun v H' => ∃ (a_ : Value) (aO : Fp), v = .agg #[i_ r.1, a_] /\ FrS [] H H' /\ Ow Zr 3 H' a_ r.2 aO /\ Inn [] H aO := by
 refine ab_ Tryz.func66 ?_
 unfold ZcG at aS
 refine sq_ fun bz => g_' ?_
 refine ZaK an [i_ O, ak] (Zu (rfl) (Zu (aC.one1) (Z1))) (by kernel_rfl) fun cn ci ac cp a7 => ?_
 refine rk_ ac.wf [i_ 0, .slice none 0 0] fun aw cg Z bo ar => ?_
 refine Za (bz _ _ (sq_ fun bu => g_' (qs_ 1 ?_)))
 have ba := (a7.ext Z)
 refine lr_ 3 0 (i_ O) ba (qs_ 1 ?_)
 refine rk_ Z.wf [i_ 0, .slice none 0 0] fun ab ch aa ad au => ?_
 obtain ⟨ao, bM, D, bV⟩ := ra_ 24 0 aa.wf au [i_ O, .slice none 0 0] [i_ O, .slice none 0 0]
 refine ek_ bM (Za (bu _ _ (sq_ fun bv => sq_ fun bw => g_' (qs_ 1 ?_))))
 have bi := (ad.djn (a7.ltF.le Z.n))
 have ca := ((ba.ext aa).frS D bi)
 refine lr_ 22 1 (ak) ca ?_
 have aG := (t_ ac.n Z.n)
 have aL := (ad.djn (aC.lt.le aG))
 have bb := ((((aC.ext ac).ext Z).ext aa).fr D aL)
 refine bb.ln_ 22 (qs_ 1 (Za (bw _ _ ?_)))
 obtain ⟨a6, br, bW⟩ := bs_ aS
 refine ZC (fun α ap => ∃ (aJ : Value) (f46 : Fp), Has α [(2, pt_ aw 0), (3, pt_ ab 0)] /\ FrS [ab] ao ap /\ Ow Zr 3 ap aJ a6 f46 /\ Row ap ab [i_ O, aJ] /\ Inn [] ao f46) (fun _ bx => ?_) (fun α ap hM => ?_)
 ·refine Zl ?_
  obtain ⟨a1, bq⟩ := Zt.1 br
  refine ZI (fun n α aq => ∃ (e : Int), ∃ (c1 : List (Int × Int × Int)), ∃ (aK : Value), ∃ (ai : Fp), ZO (fun zz_ => ZbQ Arcs zz_.1 zz_.2) n (e, c1) = some a6 /\ Has α [(2, pt_ aw 0), (3, pt_ ab 0), (10, ak), (11, i_ (Arcs.length : Int)), (12, i_ e)] /\ FrS [ab] ao aq /\ Ow Zr 3 aq aK c1 ai /\ Row aq ab [i_ O, aK] /\ Inn [] ao ai) a1 ⟨0, [], (.slice none 0 0), [], bq, ha_, (fr_ D.wf), (Ow.nil (by decide)), bV, in_⟩ ?_
  rintro a1 α aq ⟨e, c1, aK, ai, bp, aR, U, af, aE, aV⟩ cm aW
  obtain ⟨a2, z66, rfl, al, aD⟩ := Zx bp
  obtain ⟨β, rfl⟩ := Zk aR
  clear aR
  replace al : ZbQ Arcs e c1 = some z66 := al
  unfold ZbQ at al
  obtain ⟨a70, aH, ay, rfl⟩ := af.form
  refine sn_ (sq_ fun bA => ?_)
  refine wc_ (e < (Arcs.length : Int)) (fun aj => ?_) fun aj => ?_
  ·have bX := Ze aj al
   refine Zg (bA _ _ (sq_ fun aX => Zl (sq_ fun bB => g_' ?_)))
   obtain ⟨aP, a8⟩ := Zb bX
   have bc := (bb.fr U aL)
   refine bc.ix_ 22 aP aj (le_ 106 0 (.agg #[i_ ((gt Arcs e).1), i_ ((gt Arcs e).2.1), i_ ((gt Arcs e).2.2)]) bc aP aj ?_)
   refine rk_ U.wf [i_ 0, i_ 0, i_ 0] fun co cj V ae bY => ?_
   obtain ⟨ck, bN, Y, aI⟩ := ra_ 106 0 V.wf bY [i_ ((gt Arcs e).1), i_ ((gt Arcs e).2.1), i_ ((gt Arcs e).2.2)] [i_ ((gt Arcs e).1), i_ ((gt Arcs e).2.1), i_ ((gt Arcs e).2.2)]
   refine ek_ bN (Za (bB _ _ (sq_ fun bC => g_' (qs_ 1 (lr_ 3 0 (i_ ((gt Arcs e).1)) aI (qs_ 1 (lr_ 3 1 (i_ ((gt Arcs e).2.1)) aI (qs_ 1 (Za (bC _ _ ?_))))))))))
   refine Zdi (((gt Arcs e).1) = ((gt Arcs e).2.1)) (by kernel_rfl) rfl (fun aB => ?_) (fun aB => ?_)
   ·have bZ := Zi aB a8
    refine g_' (qs_ 1 ?_)
    have bJ := (t_ D.n U.n)
    have bj := (ae.djn (au.ltF.le bJ))
    have bd := ((aE.ext V).frS Y bj)
    refine lr_ 22 1 (.slice a70 aH ay) bd (lr_ 106 0 (.agg #[i_ ((gt Arcs e).1), i_ ((gt Arcs e).2.1), i_ ((gt Arcs e).2.2)]) aI ?_)
    have cc := ((af.ext V).fr Y (ae.djn af.lt))
    obtain ⟨cd, bs, bO⟩ := bs_ bZ
    refine ck_ (ZgR Y.wf cc.sq bs) ?_
    rintro cq ce ⟨_, bk, rfl, az, aY, aT⟩
    obtain ⟨av, aF, ax, rfl⟩ := aY.form
    refine qs_ 1 ?_
    have b5 := (bd.frS az dn_)
    obtain ⟨cf, bK, aM, bP⟩ := rb_ 22 1 az.wf b5 (.slice av aF ax) [i_ O, .slice av aF ax]
    refine ek_ bK (Za (aX _ _ (g_' ?_)))
    obtain ⟨bm, bQ⟩ := Zb bO
    refine w_' ((e + 1)) (Zo (by have := bm; omega)) (qs_ 1 (Za ?_))
    have bE := (t_ (t_ (t_ D.n U.n) V.n) Y.n)
    have bf := (aT.djn (au.ltF.le bE))
    have b6 := (aY.fr aM (Dj.symm bf))
    have bF := (t_ (t_ U.n V.n) Y.n)
    obtain rfl := oi_ bQ
    exact aW a2 _ _ lt_ ⟨(e + 1), cd, (.slice av aF ax), bk, aD, ha_, (fs_ D.wf (fs_ D.wf (fs_ D.wf ((fs_ D.wf (fr_ D.wf) U ir_).extR V) Y (ae.fresh U.n)) az in_) aM ir_), b6, bP, (aT.fresh bF)⟩
   have bR := Ze aB a8
   refine Zg (aX _ _ (g_' ?_))
   obtain ⟨bn, bS⟩ := Zb bR
   refine w_' ((e + 1)) (Zo (by have := bn; omega)) (qs_ 1 (Za ?_))
   have b7 := ((af.ext V).fr Y (ae.djn af.lt))
   have bG := (t_ D.n U.n)
   have bg := (ae.djn (au.ltF.le bG))
   have b8 := ((aE.ext V).frS Y bg)
   obtain rfl := oi_ bS
   exact aW a2 _ _ lt_ ⟨(e + 1), c1, (.slice a70 aH ay), ai, aD, ha_, (fs_ D.wf ((fs_ D.wf (fr_ D.wf) U ir_).extR V) Y (ae.fresh U.n)), b7, b8, (aV.fresh (Nat.le_refl _))⟩
  have bT := Zi aj al
  refine ZH (Zj (Zj (ZT ?_)))
  obtain rfl := oi_ bT
  obtain rfl := Zv aD
  exact bx _ _ ⟨(.slice a70 aH ay), ai, ha_, (fs_ D.wf (fr_ D.wf) U ir_), af, aE, (aV.fresh (Nat.le_refl _))⟩
 obtain ⟨aJ, f46, aQ, aA, aZ, bD, aU⟩ := hM
 obtain ⟨β, rfl⟩ := Zk aQ
 clear aQ
 obtain ⟨ag, am, ah, rfl⟩ := aZ.form
 refine bv _ _ (sq_ fun bt => g_' (lr_ 24 0 (.agg #[i_ O, .slice ag am ah]) bD ?_))
 have b9 := (((ar.ext aa).frS D (ad.djn ar.ltF)).frS aA (ad.djn ar.ltF))
 obtain ⟨be, bL, aN, bU⟩ := ra_ 24 0 aA.wf b9 [i_ O, .slice ag am ah] [i_ O, .slice ag am ah]
 refine ek_ bL (Za (bt _ _ ?_))
 refine Zh ?_
 refine Zac (vs := [.agg #[i_ O, .slice ag am ah]]) (ZQ (Eq.trans (b := aL_ 24 (pt_ aw 0) be) (by kernel_rfl) (bU.l_)) (rfl)) ?_
 have bH := (t_ aa.n D.n)
 have bh := (aU.djn (ar.ltF.le bH))
 have b_ := (aZ.fr aN (Dj.symm bh))
 have bI := (t_ (t_ (t_ ac.n Z.n) aa.n) D.n)
 obtain rfl := oi_ bW
 exact ⟨(.slice ag am ah), f46, rfl, (fs_ an (fs_ an (fs_ an ((((f0_ an).extR ac).extR Z).extR aa) D (ad.fresh aG)) aA (ad.fresh aG)) aN (bo.fresh ac.n)), b_, (aU.fresh bI)⟩
theorem Zf7 {H : AH} {aj : Value} {be : Fp} {ah : Int} {Arcs : List (Int × Int × Int)} {r : Int × List (Int × Int × Int) × Int × List (Int × Int)}
    (U : WF H) (ax : Sq Zr 3 H aj Arcs be) (aL : ZbU ah Arcs = some r) :
    ACalls Tryz.prog 41 #[.agg #[i_ ah, aj]] H fun v H' => ∃ (aR : Value) (au : Fp) (aS : Value) (av : Fp), v = .tuple #[.agg #[i_ r.1, aR], .agg #[i_ r.2.2.1, aS]] /\ FrS [] H H' /\ Ow Zr 3 H' aR r.2.1 au /\ Ow ZaZ 2 H' aS r.2.2.2 av /\ Inn [] H au /\ Inn [] H av /\ Dj au av := by
 refine ab_ Tryz.func41 ?_
 unfold ZbU at aL
 refine sq_ fun bi => g_' ?_
 refine ZaK U [i_ ah, aj] (Zu (rfl) (Zu (ax.one1) (Z1))) (by kernel_rfl) fun ce b8 Z cf aO => ?_
 refine rk_ Z.wf [i_ 0, .slice none 0 0] fun aE b9 aa aK ae => ?_
 refine rk_ aa.wf [i_ 0, .slice none 0 0] fun aF b_ D ao ag => ?_
 refine Za (bi _ _ (sq_ fun bj => sq_ fun bk => g_' ?_))
 have aT := ((aO.ext aa).ext D)
 refine lr_ 24 0 (.agg #[i_ ah, aj]) aT ?_
 have aU := (((ax.ext Z).ext aa).ext D)
 obtain ⟨af, bg, bH⟩ := bs_ aL
 refine ck_ (ZdZ D.wf aU bg) ?_
 rintro _ ca ⟨ch, bd, rfl, e, aA, az⟩
 obtain ⟨a45, ad, ac, rfl⟩ := aA.form
 refine rk_ e.wf [i_ 0, .slice none 0 0] fun aG cc V ab bI => ?_
 have bS := (aA.ext V)
 obtain ⟨cd, bB, Y, aP⟩ := ra_ 46 0 V.wf bI [i_ af.1, .slice a45 ad ac] [i_ af.1, .slice a45 ad ac]
 refine ek_ bB (Za (bk _ _ (sq_ fun bl => g_' (lr_ 46 0 (.agg #[i_ af.1, .slice a45 ad ac]) aP ?_))))
 have aV := (bS.fr Y (ab.djn aA.lt))
 obtain ⟨b5, bh, aQ⟩ := bs_ bH
 refine ck_ (Zbn Y.wf aV.sq bh) ?_
 rintro _ aX ⟨rfl, O⟩
 refine Za (bl _ _ ?_)
 refine wb_ (b5) (fun aw => ?_) fun aw => ?_
 ·have bJ := Ze aw aQ
  refine sq_ fun bm => ?_
  refine ZR [0, 1, 2, 3] (by kernel_rfl) ?_
  refine es_ 1 ?_
  have aW := (aP.frS O dn_)
  refine Zcz (.agg #[i_ af.1, .slice a45 ad ac]) (x := aL_ 46 (pt_ aG 0) aX) (by kernel_rfl) (aW.l_) ?_
  have bt := (t_ D.n e.n)
  have aI := (ab.djn (ae.ltF.le bt))
  have bT := (((((ae.ext D).frS e dn_).ext V).frS Y aI).frS O dn_)
  obtain ⟨aY, bC, ai, bK⟩ := ra_ 24 0 O.wf bT [i_ 0, .slice none 0 0] [i_ 0, .slice none 0 0]
  have bU := (aW.frS ai (Dj.symm aI))
  refine fk_ bC (ZaP (y := aL_ 46 (pt_ aG 0) aY) (by kernel_rfl) (bU.l_) (ZL)) ?_
  have a7 := (ab.djn (ag.ltF.le e.n))
  have aJ := (ao.djn ae.ltF)
  have bV := (((((ag.frS e dn_).ext V).frS Y a7).frS O dn_).frS ai (Dj.symm aJ))
  have a8 := (az.djn (ae.ltF.le D.n))
  have bW := ((aV.fr O dn_).fr ai (Dj.symm a8))
  obtain ⟨aD, bD, ar, bL⟩ := ra_ 46 0 ai.wf bV [i_ af.1, .slice a45 ad ac] [i_ af.1, .slice a45 ad ac]
  refine fk_ bD (Zap (by kernel_rfl) (ZL)) ?_
  refine ZK ?_
  refine bm _ _ ?_
  refine Zh (Zf ?_)
  have bX := (bK.frS ar aJ)
  refine Zac (vs := [.agg #[i_ 0, .slice none 0 0], .agg #[i_ af.1, .slice a45 ad ac]]) (ZQ (Eq.trans (b := aL_ 24 (pt_ aE 0) aD) (by kernel_rfl) (bX.l_)) (ZQ (Eq.trans (b := aL_ 46 (pt_ aF 0) aD) (by kernel_rfl) (bL.l_)) (rfl))) ?_
  have bu := (t_ (t_ (t_ Z.n aa.n) D.n) e.n)
  have bv := (t_ Z.n aa.n)
  have a_ := (az.djn ag.ltF)
  have bY := (bW.fr ar (Dj.symm a_))
  have bw := (t_ (t_ Z.n aa.n) D.n)
  obtain rfl := oi_ bJ
  exact ⟨(.slice none 0 0), [], (.slice a45 ad ac), bd, rfl, (fs_ U (fs_ U (fs_ U (fs_ U ((fs_ U ((((f0_ U).extR Z).extR aa).extR D) e in_).extR V) Y (ab.fresh bu)) O in_) ai (aK.fresh Z.n)) ar (ao.fresh bv)), (Ow.nil (by decide)), bY, in_, (az.fresh bw), dn_⟩
 have bM := ZM aw aQ
 refine Zg (bj _ _ (sq_ fun bn => g_' ?_))
 have bx := (t_ (t_ aa.n D.n) e.n)
 have ba := (ab.djn (aO.ltF.le bx))
 have bZ := ((((aT.frS e dn_).ext V).frS Y ba).frS O dn_)
 refine lr_ 24 0 (.agg #[i_ ah, aj]) bZ ?_
 have aN := (t_ (t_ (t_ Z.n aa.n) D.n) e.n)
 have bb := (ab.djn (ax.lt.le aN))
 have bN := ((((aU.fr e dn_).ext V).fr Y bb).fr O dn_)
 obtain ⟨aB, bf, bE⟩ := bs_ bM
 refine ck_ (Zg6 O.wf bN bf) ?_
 rintro _ b6 ⟨cg, bc, rfl, am, aM, ay⟩
 obtain ⟨ak, ap, al, rfl⟩ := aM.form
 refine qs_ 1 ?_
 have bo := (t_ D.n e.n)
 have aZ := (ab.djn (ae.ltF.le bo))
 have bO := ((((((ae.ext D).frS e dn_).ext V).frS Y aZ).frS O dn_).frS am dn_)
 obtain ⟨b7, bz, an, bF⟩ := ra_ 24 0 am.wf bO [i_ aB.1, .slice ak ap al] [i_ aB.1, .slice ak ap al]
 refine ek_ bz ?_
 have a1 := (ab.djn (ag.ltF.le e.n))
 have aH := (ao.djn ae.ltF)
 have bP := ((((((ag.frS e dn_).ext V).frS Y a1).frS O dn_).frS am dn_).frS an (Dj.symm aH))
 obtain ⟨aC, bA, aq, bG⟩ := ra_ 46 0 an.wf bP [i_ 0, .slice none 0 0] [i_ 0, .slice none 0 0]
 refine ek_ bA (Za (bn _ _ ?_))
 refine Zh ?_
 have bQ := (bF.frS aq aH)
 refine Zac (vs := [.agg #[i_ aB.1, .slice ak ap al], .agg #[i_ 0, .slice none 0 0]]) (ZQ (Eq.trans (b := aL_ 24 (pt_ aE 0) aC) (by kernel_rfl) (bQ.l_)) (ZQ (Eq.trans (b := aL_ 46 (pt_ aF 0) aC) (by kernel_rfl) (bG.l_)) (rfl))) ?_
 have bp := (t_ Z.n aa.n)
 have bq := (t_ (t_ (t_ (t_ D.n e.n) V.n) Y.n) O.n)
 have a2 := (ay.djn (ae.ltF.le bq))
 have br := (t_ (t_ (t_ e.n V.n) Y.n) O.n)
 have a6 := (ay.djn (ag.ltF.le br))
 have bR := ((aM.fr an (Dj.symm a2)).fr aq (Dj.symm a6))
 have bs := (t_ (t_ (t_ (t_ (t_ (t_ Z.n aa.n) D.n) e.n) V.n) Y.n) O.n)
 obtain rfl := oi_ bE
 exact ⟨(.slice ak ap al), bc, (.slice none 0 0), [], rfl, (fs_ U (fs_ U (fs_ U (fs_ U (fs_ U ((fs_ U ((((f0_ U).extR Z).extR aa).extR D) e in_).extR V) Y (ab.fresh aN)) O in_) am in_) an (aK.fresh Z.n)) aq (ao.fresh bp)), bR, (Ow.nil (by decide)), (ay.fresh bs), in_, Dj.nil_r⟩
theorem ZgQ {H : AH} {aw : Value} {bY : Fp} {Z : Int} {Arcs : List (Int × Int × Int)} {r : List (Bool) × List (Int × Int × Int × Int)}
    (ap : WF H) (aM : Sq Zr 3 H aw Arcs bY) (bu : Zcm Z Arcs = some r) :
    ACalls Tryz.prog 42 #[.agg #[i_ Z, aw]] H fun v H' => ∃ (bD : Value) (aU : Fp) (bE : Value) (aV : Fp), v = .agg #[bD, bE] /\ FrS [] H H' /\ Ow Zaz 1 H' bD r.1 aU /\ Ow Zn 4 H' bE r.2 aV /\ Inn [] H aU /\ Inn [] H aV /\ Dj aU aV := by
 refine ab_ Tryz.func42 ?_
 unfold Zcm at bu
 refine sq_ fun ch => g_' ?_
 refine ZaK ap [i_ Z, aw] (Zu (rfl) (Zu (aM.one1) (Z1))) (by kernel_rfl) fun bd dn aj dE a7 => ?_
 refine rk_ aj.wf [.slice none 0 0, .slice none 0 0] fun ar dv ab b8 aC => ?_
 refine Za (ch _ _ (sq_ fun co => g_' (qs_ 1 ?_)))
 have bI := (a7.ext ab)
 refine lr_ 3 0 (i_ Z) bI ?_
 obtain ⟨bk, c3⟩ := Zb bu
 refine Zm1 (t := 31) (m := 1) (l := Z) (c := Z) (enc := Zaz) (sz := 1) ab.wf (false : Bool) (by kernel_rfl) (by decide) bk.1 (Int.le_refl _) (by omega) (by have := bk; omega) (by kernel_rfl) fun dJ an bL aa ao ae => ?_
 obtain ⟨U, Y, V, rfl⟩ := ae.form
 have ae : Ow Zaz 1 bL (.slice U Y V) (List.replicate Z.toNat (false : Bool)) an := ae
 refine qs_ 1 ?_
 refine rk_ aa.wf [.slice none 0 0, .slice none 0 0] fun af dw ac ad aQ => ?_
 have dg := (ae.ext ac)
 obtain ⟨bb, cP, O, a8⟩ := ra_ 34 0 ac.wf aQ [.slice U Y V, .slice none 0 0] [.slice U Y V, .slice none 0 0]
 refine ek_ cP (Za (co _ _ (sq_ fun cp => sq_ fun cq => g_' (qs_ 1 (lr_ 31 0 (.slice U Y V) a8 ?_)))))
 have bJ := (dg.fr O (ad.djn ae.lt))
 refine bJ.sq.ln_ 31 (qs_ 1 (Za (cq _ _ ?_)))
 obtain ⟨bC, cf, c4⟩ := bs_ c3
 refine ZC (fun α ai => Has α [(1, pt_ bd 0), (2, pt_ ar 0), (3, pt_ af 0)] /\ FrS an bb ai /\ Ow Zaz 1 ai (.slice U Y V) bC an) (fun _ cr => ?_) (fun α ai hM => ?_)
 ·refine Zl ?_
  obtain ⟨bA, cd⟩ := Zt.1 cf
  refine ZI (fun n α aR => ∃ (ah : Int), ∃ (aA : List (Bool)), ZO (fun zz_ => ZbE Z zz_.1 zz_.2) n (ah, aA) = some bC /\ Has α [(1, pt_ bd 0), (2, pt_ ar 0), (3, pt_ af 0), (13, i_ ((List.replicate Z.toNat (false : Bool)).length : Int)), (14, i_ ah)] /\ FrS an bb aR /\ Ow Zaz 1 aR (.slice U Y V) aA an) bA ⟨0, (List.replicate Z.toNat (false : Bool)), cd, ha_, (fr_ O.wf), bJ⟩ ?_
  rintro bA α aR ⟨ah, aA, b_, bp, aI, aZ⟩ dz cu
  obtain ⟨cJ, dm, rfl, ay, bt⟩ := Zx b_
  obtain ⟨β, rfl⟩ := Zk bp
  clear bp
  replace ay : ZbE Z ah aA = some dm := ay
  unfold ZbE at ay
  refine sn_ (sq_ fun cv => ?_)
  refine wc_ (ah < ((List.replicate Z.toNat (false : Bool)).length : Int)) (fun aW => ?_) fun aW => ?_
  ·have c5 := Ze aW ay
   refine Zg (cv _ _ (sq_ fun cw => Zl (sn_ (g_' (qs_ 1 ?_)))))
   have bT := (ad.djn ae.lt)
   have dh := (a8.frS aI (Dj.symm bT))
   refine lr_ 31 0 (.slice U Y V) dh (qs_ 1 ?_)
   obtain ⟨aL, c6⟩ := Zb c5
   refine aZ.sq.ix_ 31 aL.1 aL.2 ?_
   obtain ⟨dx, cQ, bW, ca⟩ := Ow.store (P := Tryz.prog) (t := 4) (off := 0) aI.wf aZ aL.1 aL.2 (.bool true) [.bool true] (by kernel_rfl) (by kernel_rfl) rfl true (Nat.le_of_ble_eq_true rfl) (by kernel_rfl)
   refine ek_ cQ (Za (cw _ _ (g_' ?_)))
   obtain ⟨b7, c7⟩ := Zb c6
   refine w_' ((ah + 1)) (Zo (by have := b7; omega)) (qs_ 1 (Za ?_))
   obtain rfl := oi_ c7
   exact cu cJ _ _ lt_ ⟨(ah + 1), (aA.set ah.toNat true), bt, ha_, (fs_ O.wf (fs_ O.wf (fr_ O.wf) aI ir_) bW ir_), ca⟩
  have c8 := Zi aW ay
  refine ZH (Zj (Zj (ZT ?_)))
  obtain rfl := oi_ c8
  obtain rfl := Zv bt
  exact cr _ _ ⟨ha_, (fs_ O.wf (fr_ O.wf) aI ir_), aZ⟩
 obtain ⟨bo, D, cA⟩ := hM
 obtain ⟨β, rfl⟩ := Zk bo
 clear bo
 refine cp _ _ (sq_ fun cx => sq_ fun cy => g_' (qs_ 1 ?_))
 have cK := (t_ ab.n aa.n)
 have bU := (ad.djn (a7.ltF.le cK))
 have bV := (ao.djn (a7.ltF.le ab.n))
 have di := ((((bI.ext aa).ext ac).frS O bU).frS D bV)
 refine lr_ 22 1 (aw) di ?_
 have a2 := (t_ (t_ aj.n ab.n) aa.n)
 have bh := (ad.djn (aM.lt.le a2))
 have a1 := (t_ aj.n ab.n)
 have bM := (ao.djn (aM.lt.le a1))
 have bF := ((((((aM.ext aj).ext ab).ext aa).ext ac).fr O bh).fr D bM)
 refine bF.ln_ 22 (qs_ 1 (Za (cy _ _ ?_)))
 obtain ⟨bB, ce, cR⟩ := bs_ c4
 refine ZC (fun α aD => ∃ (a_ : Value) (aJ : Fp), Has α [(2, pt_ ar 0), (3, pt_ af 0)] /\ FrS [af] ai aD /\ Ow Zn 4 aD a_ bB aJ /\ Row aD af [.slice U Y V, a_] /\ Inn [] ai aJ) (fun _ cg => ?_) (fun α aD hM => ?_)
 ·refine Zl ?_
  obtain ⟨bx, cc⟩ := Zt.1 ce
  have bN := (ad.djn ae.lt)
  have c9 := (a8.frS D (Dj.symm bN))
  refine ZI (fun n α aE => ∃ (e : Int), ∃ (aB : List (Int × Int × Int × Int)), ∃ (ba : Value), ∃ (aK : Fp), ZO (fun zz_ => Zbp Arcs zz_.1 zz_.2) n (e, aB) = some bB /\ Has α [(2, pt_ ar 0), (3, pt_ af 0), (23, aw), (24, i_ (Arcs.length : Int)), (25, i_ e)] /\ FrS [af] ai aE /\ Ow Zn 4 aE ba aB aK /\ Row aE af [.slice U Y V, ba] /\ Inn [] ai aK) bx ⟨0, [], (.slice none 0 0), [], cc, ha_, (fr_ D.wf), (Ow.nil (by decide)), c9, in_⟩ ?_
  rintro bx α aE ⟨e, aB, ba, aK, b9, bn, ag, aO, bw, aN⟩ dy ci
  obtain ⟨cB, dk, rfl, ax, bs⟩ := Zx b9
  obtain ⟨β, rfl⟩ := Zk bn
  clear bn
  replace ax : Zbp Arcs e aB = some dk := ax
  unfold Zbp at ax
  obtain ⟨bc, bz, be, rfl⟩ := aO.form
  refine sn_ (sq_ fun cj => ?_)
  refine wc_ (e < (Arcs.length : Int)) (fun av => ?_) fun av => ?_
  ·have cS := Ze av ax
   refine Zg (cj _ _ (sq_ fun ck => Zl (sq_ fun cm => g_' ?_)))
   obtain ⟨bj, cT⟩ := Zb cS
   have bG := (bF.fr ag bh)
   refine bG.ix_ 22 bj av (le_ 106 0 (.agg #[i_ ((gt Arcs e).1), i_ ((gt Arcs e).2.1), i_ ((gt Arcs e).2.2)]) bG bj av ?_)
   refine rk_ ag.wf [i_ 0, i_ 0, i_ 0] fun dB dp ak aX cU => ?_
   obtain ⟨dq, cL, al, a6⟩ := ra_ 106 0 ak.wf cU [i_ ((gt Arcs e).1), i_ ((gt Arcs e).2.1), i_ ((gt Arcs e).2.2)] [i_ ((gt Arcs e).1), i_ ((gt Arcs e).2.1), i_ ((gt Arcs e).2.2)]
   refine ek_ cL (Za (cm _ _ (g_' (qs_ 1 ?_))))
   have cC := (t_ (t_ O.n D.n) ag.n)
   have bO := (aX.djn (aQ.ltF.le cC))
   have bH := ((bw.ext ak).frS al bO)
   refine lr_ 32 1 (.slice bc bz be) bH (qs_ 1 (lr_ 3 0 (i_ ((gt Arcs e).1)) a6 (qs_ 1 (lr_ 3 1 (i_ ((gt Arcs e).2.1)) a6 (qs_ 1 (lr_ 3 2 (i_ ((gt Arcs e).2.2)) a6 ?_))))))
   obtain ⟨bZ, cV⟩ := Zb cT
   refine s_w ((gt Arcs e).2.2) (k := .u64) (x := (gt Arcs e).2.2) (by kernel_rfl) (ZdA bZ) ?_
   refine qs_ 1 ?_
   refine Zbo (enc := Zn) (sz := 4) al.wf [((gt Arcs e).1, (gt Arcs e).2.1, (gt Arcs e).2.2, (-1))] 1 (by decide) (fun _ _ => rfl) (fun _ _ => rfl) rfl (by kernel_rfl) fun dH dD dr am dF bq => ?_
   obtain ⟨dA, dG, dC, rfl⟩ := bq.form
   have c_ := (((aO.ext ak).fr al (aX.djn aO.lt)).ext am)
   obtain ⟨b5, cW⟩ := Zb cV
   obtain ⟨dI, dt, bX, cM, aS, br, bl⟩ := Ow.append (P := Tryz.prog) 32 am.wf c_ bq.sq (fun _ _ => rfl) (at_ := #[32, 32]) rfl rfl (by kernel_rfl) (by kernel_rfl) (by decide) (by have := b5; first | omega | (simp only [List.length_cons, List.length_nil] at this ⊢; omega) | (simp at this ⊢; omega))
   obtain ⟨aF, aP, aG, rfl⟩ := br.form
   refine ZaL (.slice aF aP aG) (by kernel_rfl) (cM) ?_
   refine qs_ 1 ?_
   have cD := (t_ O.n D.n)
   have bf := (aN.djn (aQ.ltF.le cD))
   have da := ((bH.ext am).frS aS bf)
   obtain ⟨du, cN, bi, cX⟩ := rb_ 32 1 aS.wf da (.slice aF aP aG) [.slice U Y V, .slice aF aP aG]
   refine ek_ cN (Za (ck _ _ (g_' ?_)))
   obtain ⟨b6, cY⟩ := Zb cW
   refine w_' ((e + 1)) (Zo (by have := b6; omega)) (qs_ 1 (Za ?_))
   have cE := (t_ (t_ (t_ (t_ (t_ O.n D.n) ag.n) ak.n) al.n) am.n)
   have bP := (bl.dj bf (aQ.ltF.le cE))
   have db := (br.fr bi (Dj.symm bP))
   have cF := (t_ (t_ (t_ ag.n ak.n) al.n) am.n)
   obtain rfl := oi_ cY
   exact ci cB _ _ lt_ ⟨(e + 1), (aB ++ [((gt Arcs e).1, (gt Arcs e).2.1, (gt Arcs e).2.2, (-1))]), (.slice aF aP aG), bX, bs, ha_, (fs_ D.wf (fs_ D.wf ((fs_ D.wf ((fs_ D.wf (fr_ D.wf) ag ir_).extR ak) al (aX.fresh ag.n)).extR am) aS (aN.fresh (Nat.le_refl _))) bi ir_), db, cX, (Inn.trans (aN.fresh (Nat.le_refl _)) cF bl)⟩
  have cZ := Zi av ax
  refine ZH (Zj (Zj (ZT ?_)))
  obtain rfl := oi_ cZ
  obtain rfl := Zv bs
  exact cg _ _ ⟨(.slice bc bz be), aK, ha_, (fs_ D.wf (fr_ D.wf) ag ir_), aO, bw, (aN.fresh (Nat.le_refl _))⟩
 obtain ⟨a_, aJ, bm, aH, bv, cz, aY⟩ := hM
 obtain ⟨β, rfl⟩ := Zk bm
 clear bm
 obtain ⟨aq, az, au, rfl⟩ := bv.form
 refine cx _ _ (sq_ fun cn => g_' (lr_ 34 0 (.agg #[.slice U Y V, .slice aq az au]) cz ?_))
 have bg := (ad.djn (aC.ltF.le aa.n))
 have dc := (((((aC.ext aa).ext ac).frS O bg).frS D (ao.djn aC.ltF)).frS aH bg)
 have dd := (cA.fr aH (ad.djn ae.lt))
 obtain ⟨bK, cO, aT, c0⟩ := ra_ 34 0 aH.wf dc [.slice U Y V, .slice aq az au] [.slice U Y V, .slice aq az au]
 refine ek_ cO (Za (cn _ _ ?_))
 refine Zh ?_
 refine Zac (vs := [.agg #[.slice U Y V, .slice aq az au]]) (ZQ (Eq.trans (b := aL_ 34 (pt_ ar 0) bK) (by kernel_rfl) (c0.l_)) (rfl)) ?_
 have bQ := (ao.djn aC.ltF)
 have de := (dd.fr aT (Dj.symm bQ))
 have cG := (t_ (t_ (t_ aa.n ac.n) O.n) D.n)
 have bR := (aY.djn (aC.ltF.le cG))
 have df := (bv.fr aT (Dj.symm bR))
 have cH := (t_ (t_ (t_ (t_ (t_ aj.n ab.n) aa.n) ac.n) O.n) D.n)
 have cI := (t_ (t_ ac.n O.n) D.n)
 have bS := (aY.djn (ae.lt.le cI))
 obtain rfl := oi_ cR
 exact ⟨(.slice U Y V), an, (.slice aq az au), aJ, rfl, (fs_ ap (fs_ ap (fs_ ap (fs_ ap (((((f0_ ap).extR aj).extR ab).extR aa).extR ac) O (ad.fresh a2)) D (ao.fresh a1)) aH (ad.fresh a2)) aT (b8.fresh aj.n)), de, df, (ao.fresh a1), (aY.fresh cH), (Dj.symm bS)⟩
theorem ZfN {H : AH} {aD : Value} {bK : Fp} {au : Int} {Arcs : List (Int × Int × Int)} {r : List (Bool) × List (Int × Int × Int × Int) × Int × List (Int × Int)}
    (V : WF H) (a1 : Sq Zr 3 H aD Arcs bK) (a6 : ZbI au Arcs = some r) :
    ACalls Tryz.prog 19 #[.agg #[i_ au, aD]] H fun v H' => ∃ (bg : Value) (aA : Fp) (bh : Value) (aB : Fp) (bf : Value) (az : Fp), v = .tuple #[.agg #[bg, bh], .agg #[i_ r.2.2.1, bf]] /\ FrS [] H H' /\ Ow Zaz 1 H' bg r.1 aA /\ Ow Zn 4 H' bh r.2.1 aB /\ Ow ZaZ 2 H' bf r.2.2.2 az /\ Inn [] H aA /\ Inn [] H aB /\ Inn [] H az /\ Dj aA aB /\ Dj aA az /\ Dj aB az := by
 refine ab_ Tryz.func19 ?_
 unfold ZbI at a6
 refine sq_ fun bP => g_' ?_
 refine ZaK V [i_ au, aD] (Zu (rfl) (Zu (a1.one1) (Z1))) (by kernel_rfl) fun c4 cU Y c8 cq => ?_
 refine rk_ Y.wf [.slice none 0 0, .slice none 0 0] fun aT cV Z a2 ah => ?_
 refine rk_ Z.wf [i_ 0, .slice none 0 0] fun aU cW D aC ai => ?_
 refine Za (bP _ _ (sq_ fun bQ => g_' ?_))
 have cN := ((cq.ext Z).ext D)
 refine lr_ 24 0 (.agg #[i_ au, aD]) cN ?_
 have cO := (((a1.ext Y).ext Z).ext D)
 obtain ⟨ad, bM, cr⟩ := bs_ a6
 refine ck_ (Zf7 D.wf cO bM) ?_
 rintro _ cX ⟨db, c7, dc, f47, rfl, e, aG, ao, c9, an, c6⟩
 obtain ⟨aJ, aN, aK, rfl⟩ := aG.form
 obtain ⟨ae, ag, af, rfl⟩ := ao.form
 refine qs_ 3 ?_
 refine rk_ e.wf [i_ 0, .slice none 0 0] fun c5 cY O ak bd => ?_
 refine rk_ O.wf [i_ 0, .slice none 0 0] fun ap cZ aa aj cu => ?_
 have cP := (bd.ext aa)
 have cQ := ((aG.ext O).ext aa)
 obtain ⟨c0, ch, ab, cv⟩ := ra_ 24 0 aa.wf cP [i_ ad.1, .slice aJ aN aK] [i_ ad.1, .slice aJ aN aK]
 refine ek_ ch ?_
 have aZ := (aj.djn bd.ltF)
 have cR := (cu.frS ab (Dj.symm aZ))
 have cS := (((ao.ext O).ext aa).fr ab (ak.djn ao.lt))
 obtain ⟨c3, ci, ac, aO⟩ := ra_ 46 0 ab.wf cR [i_ ad.2.2.1, .slice ae ag af] [i_ ad.2.2.1, .slice ae ag af]
 refine ek_ ci (Za (bQ _ _ (sq_ fun bR => sq_ fun bS => g_' (lr_ 46 0 (.agg #[i_ ad.2.2.1, .slice ae ag af]) aO ?_))))
 have bH := (aj.djn (ao.lt.le O.n))
 have aP := (cS.fr ac bH)
 obtain ⟨cT, bN, be⟩ := bs_ cr
 refine ck_ (Zbn ac.wf aP.sq bN) ?_
 rintro _ aS ⟨rfl, U⟩
 refine Za (bS _ _ ?_)
 refine wb_ (cT) (fun aM => ?_) fun aM => ?_
 ·have cw := Ze aM be
  refine sq_ fun bT => ?_
  refine ZR [0, 1, 2, 3] (by kernel_rfl) ?_
  refine es_ 1 ?_
  have bi := (aO.frS U dn_)
  refine Zcz (.agg #[i_ ad.2.2.1, .slice ae ag af]) (x := aL_ 46 (pt_ ap 0) aS) (by kernel_rfl) (bi.l_) ?_
  have bU := (t_ D.n e.n)
  have bo := (ak.djn (ah.ltF.le bU))
  have bV := (t_ (t_ D.n e.n) O.n)
  have aV := (aj.djn (ah.ltF.le bV))
  have cx := (((((((ah.ext D).frS e dn_).ext O).ext aa).frS ab bo).frS ac aV).frS U dn_)
  obtain ⟨bl, cd, aq, cj⟩ := ra_ 34 0 U.wf cx [.slice none 0 0, .slice none 0 0] [.slice none 0 0, .slice none 0 0]
  have cy := (bi.frS aq (Dj.symm aV))
  refine fk_ cd (ZaP (y := aL_ 46 (pt_ ap 0) bl) (by kernel_rfl) (cy.l_) (ZL)) ?_
  have bp := (ak.djn (ai.ltF.le e.n))
  have bW := (t_ e.n O.n)
  have bq := (aj.djn (ai.ltF.le bW))
  have aW := (aC.djn ah.ltF)
  have cz := (((((((ai.frS e dn_).ext O).ext aa).frS ab bp).frS ac bq).frS U dn_).frS aq (Dj.symm aW))
  have br := (an.djn (ah.ltF.le D.n))
  have cA := ((aP.fr U dn_).fr aq (Dj.symm br))
  obtain ⟨aQ, ce, aL, ck⟩ := ra_ 46 0 aq.wf cz [i_ ad.2.2.1, .slice ae ag af] [i_ ad.2.2.1, .slice ae ag af]
  refine fk_ ce (Zap (by kernel_rfl) (ZL)) ?_
  refine ZK ?_
  refine bT _ _ ?_
  refine Zh (Zf ?_)
  have cB := (cj.frS aL aW)
  refine Zac (vs := [.agg #[.slice none 0 0, .slice none 0 0], .agg #[i_ ad.2.2.1, .slice ae ag af]]) (ZQ (Eq.trans (b := aL_ 34 (pt_ aT 0) aQ) (by kernel_rfl) (cB.l_)) (ZQ (Eq.trans (b := aL_ 46 (pt_ aU 0) aQ) (by kernel_rfl) (ck.l_)) (rfl))) ?_
  have bX := (t_ (t_ (t_ Y.n Z.n) D.n) e.n)
  have bY := (t_ (t_ (t_ (t_ Y.n Z.n) D.n) e.n) O.n)
  have bZ := (t_ Y.n Z.n)
  have bs := (an.djn ai.ltF)
  have cC := (cA.fr aL (Dj.symm bs))
  have b5 := (t_ (t_ Y.n Z.n) D.n)
  obtain rfl := oi_ cw
  exact ⟨(.slice none 0 0), [], (.slice none 0 0), [], (.slice ae ag af), f47, rfl, (fs_ V (fs_ V (fs_ V (fs_ V (fs_ V (((fs_ V ((((f0_ V).extR Y).extR Z).extR D) e in_).extR O).extR aa) ab (ak.fresh bX)) ac (aj.fresh bY)) U in_) aq (a2.fresh Y.n)) aL (aC.fresh bZ)), (Ow.nil (by decide)), (Ow.nil (by decide)), cC, in_, in_, (an.fresh b5), dn_, dn_, dn_⟩
 have cm := ZM aM be
 refine Zg (bR _ _ (sq_ fun bO => ?_))
 refine ZR [0, 2, 1, 3, 4] (by kernel_rfl) ?_
 have cD := ((cv.frS ac aZ).frS U dn_)
 refine mr_ 24 0 (.agg #[i_ ad.1, .slice aJ aN aK]) cD ?_
 have bj := (aO.frS U dn_)
 refine Zcz (.agg #[i_ ad.2.2.1, .slice ae ag af]) (x := aL_ 46 (pt_ ap 0) aS) (by kernel_rfl) (bj.l_) ?_
 have bt := (aj.djn (aG.lt.le O.n))
 have cE := (((cQ.fr ab (ak.djn aG.lt)).fr ac bt).fr U dn_)
 obtain ⟨dd, bL, cn⟩ := bs_ cm
 refine dk_ (ZgQ U.wf cE.sq bL) ?_
 rintro _ bm ⟨c_, bI, da, bJ, rfl, am, a7, a8, aE, aF, bu⟩
 obtain ⟨av, aH, ax, rfl⟩ := a7.form
 obtain ⟨aw, aI, ay, rfl⟩ := a8.form
 have bk := (bj.frS am dn_)
 refine ⟨ZaP (y := aL_ 46 (pt_ ap 0) bm) (by kernel_rfl) (bk.l_) (ZL), ?_⟩
 have b6 := (t_ D.n e.n)
 have bv := (ak.djn (ah.ltF.le b6))
 have b7 := (t_ (t_ D.n e.n) O.n)
 have aX := (aj.djn (ah.ltF.le b7))
 have cF := ((((((((ah.ext D).frS e dn_).ext O).ext aa).frS ab bv).frS ac aX).frS U dn_).frS am dn_)
 obtain ⟨bn, cf, al, co⟩ := ra_ 34 0 am.wf cF [.slice av aH ax, .slice aw aI ay] [.slice av aH ax, .slice aw aI ay]
 have cG := (bk.frS al (Dj.symm aX))
 refine fk_ cf (ZaP (y := aL_ 46 (pt_ ap 0) bn) (by kernel_rfl) (cG.l_) (ZL)) ?_
 have bw := (ak.djn (ai.ltF.le e.n))
 have b8 := (t_ e.n O.n)
 have bx := (aj.djn (ai.ltF.le b8))
 have aY := (aC.djn ah.ltF)
 have cH := ((((((((ai.frS e dn_).ext O).ext aa).frS ab bw).frS ac bx).frS U dn_).frS am dn_).frS al (Dj.symm aY))
 have bz := (an.djn (ah.ltF.le D.n))
 have cI := (((aP.fr U dn_).fr am dn_).fr al (Dj.symm bz))
 obtain ⟨aR, cg, ar, cp⟩ := ra_ 46 0 al.wf cH [i_ ad.2.2.1, .slice ae ag af] [i_ ad.2.2.1, .slice ae ag af]
 refine fk_ cg (Zap (by kernel_rfl) (ZL)) ?_
 refine ZK ?_
 refine bO _ _ ?_
 refine Zh ?_
 have cJ := (co.frS ar aY)
 refine Zac (vs := [.agg #[.slice av aH ax, .slice aw aI ay], .agg #[i_ ad.2.2.1, .slice ae ag af]]) (ZQ (Eq.trans (b := aL_ 34 (pt_ aT 0) aR) (by kernel_rfl) (cJ.l_)) (ZQ (Eq.trans (b := aL_ 46 (pt_ aU 0) aR) (by kernel_rfl) (cp.l_)) (rfl))) ?_
 have b9 := (t_ (t_ (t_ Y.n Z.n) D.n) e.n)
 have b_ := (t_ (t_ (t_ (t_ Y.n Z.n) D.n) e.n) O.n)
 have ca := (t_ Y.n Z.n)
 have a_ := (t_ (t_ (t_ (t_ (t_ (t_ D.n e.n) O.n) aa.n) ab.n) ac.n) U.n)
 have bA := (aE.djn (ah.ltF.le a_))
 have ba := (t_ (t_ (t_ (t_ (t_ e.n O.n) aa.n) ab.n) ac.n) U.n)
 have bB := (aE.djn (ai.ltF.le ba))
 have cK := ((a7.fr al (Dj.symm bA)).fr ar (Dj.symm bB))
 have bC := (aF.djn (ah.ltF.le a_))
 have bD := (aF.djn (ai.ltF.le ba))
 have cL := ((a8.fr al (Dj.symm bC)).fr ar (Dj.symm bD))
 have bE := (an.djn ai.ltF)
 have cM := (cI.fr ar (Dj.symm bE))
 have bb := (t_ (t_ (t_ (t_ (t_ (t_ (t_ (t_ Y.n Z.n) D.n) e.n) O.n) aa.n) ab.n) ac.n) U.n)
 have cc := (t_ (t_ Y.n Z.n) D.n)
 have bc := (t_ (t_ (t_ (t_ O.n aa.n) ab.n) ac.n) U.n)
 have bF := (aE.djn (ao.lt.le bc))
 have bG := (aF.djn (ao.lt.le bc))
 obtain rfl := oi_ cn
 exact ⟨(.slice av aH ax), bI, (.slice aw aI ay), bJ, (.slice ae ag af), f47, rfl, (fs_ V (fs_ V (fs_ V (fs_ V (fs_ V (fs_ V (((fs_ V ((((f0_ V).extR Y).extR Z).extR D) e in_).extR O).extR aa) ab (ak.fresh b9)) ac (aj.fresh b_)) U in_) am in_) al (a2.fresh Y.n)) ar (aC.fresh ca)), cK, cL, cM, (aE.fresh bb), (aF.fresh bb), (an.fresh cc), bu, bF, bG⟩
theorem ZfD {H : AH} {Z : Value} {ab : Fp} {l : List (Int × Int × Int)} {e : Int} {U : Int} {O : Int} {r : List (Int × Int × Int)}
    (V : WF H) (aj : Ow Zc 3 H Z l ab) (am : Zbv l e U O = some r) :
    ACalls Tryz.prog 44 #[Z, .agg #[i_ e, .int .u64 U, i_ O]] H fun v H' => ∃ (ap : Value) (ai : Fp), v = ap /\ FrS ab H H' /\ Ow Zc 3 H' ap r ai /\ Inn ab H ai := by
 refine ab_ Tryz.func44 ?_
 unfold Zbv at am
 refine sq_ fun aJ => g_' ?_
 refine rl_ V [i_ e, .int .u64 U, i_ O] fun a1 aZ Y a6 ae => ?_
 refine qs_ 1 (Za (aJ _ _ (sq_ fun aF => g_' (qs_ 2 (lr_ 3 0 (i_ e) ae ?_)))))
 have af := (aj.ext Y)
 obtain ⟨ar, aE, ao⟩ := bs_ am
 refine ck_ (Zey Y.wf af.sq aE) ?_
 rintro _ aV ⟨rfl, D⟩
 refine qs_ 5 (Za (aF _ _ (sq_ fun aG => sn_ ?_)))
 refine wb_ (ar.2) (fun ad => ?_) fun ad => ?_
 ·have aO := Ze ad ao
  refine sq_ fun aH => g_' (qs_ 2 ?_)
  have aS := (ae.frS D dn_)
  refine lr_ 98 0 (.agg #[i_ e, .int .u64 U, i_ O]) aS ?_
  obtain ⟨ac, aP⟩ := Zb aO
  have aq := (af.fr D dn_)
  refine aq.sq.ix_ 92 ac.1 ac.2 ?_
  obtain ⟨aW, aN, ax, aD⟩ := Ow.store (P := Tryz.prog) (t := 98) (off := 0) D.wf aq ac.1 ac.2 (.agg #[i_ e, .int .u64 U, i_ O]) [i_ e, .int .u64 U, i_ O] (by kernel_rfl) (by kernel_rfl) rfl (e, U, O) (Nat.le_of_ble_eq_true rfl) (by kernel_rfl)
  refine ek_ aN (Za (aH _ _ (sn_ ?_)))
  refine Zh (Zf ?_)
  refine br_ [Z] ?_
  obtain rfl := oi_ aP
  exact ⟨(Z), ab, rfl, (fs_ V (fs_ V ((fr_ V).extR Y) D in_) ax ir_), aD, ir_⟩
 have aQ := ZM ad ao
 refine Zg (aG _ _ (sq_ fun aI => g_' (qs_ 2 ?_)))
 have aT := (ae.frS D dn_)
 refine lr_ 98 0 (.agg #[i_ e, .int .u64 U, i_ O]) aT ?_
 refine Zbo (enc := Zc) (sz := 3) D.wf [(e, U, O)] 1 (by decide) (fun _ _ => rfl) (fun _ _ => rfl) rfl (by kernel_rfl) fun a7 a2 aX aa aB ak => ?_
 obtain ⟨au, aK, av, rfl⟩ := ak.form
 have aU := ((af.fr D dn_).ext aa)
 obtain ⟨aA, aR⟩ := Zb aQ
 have aL := (t_ Y.n D.n)
 have aw := (aB.djn (aj.lt.le aL))
 refine Zgu 68 #[Z, i_ ar.1, .slice au aK av] (by kernel_rfl) (Zmh aa.wf aU ak (Dj.symm aw) aA) ?_
 rintro a8 aY ⟨az, ay, al, aC⟩
 obtain ⟨ag, an, ah, rfl⟩ := al.form
 refine qs_ 1 (Za (aI _ _ ?_))
 refine Zh ?_
 refine br_ [.slice ag an ah] ?_
 have aM := (t_ (t_ Y.n D.n) aa.n)
 obtain rfl := oi_ aR
 exact ⟨(.slice ag an ah), az, rfl, (fs_ V ((fs_ V ((fr_ V).extR Y) D in_).extR aa) ay ir_), al, (Inn.trans ir_ aM aC)⟩
theorem Zee {H : AH} {V : Nat} {e : Value} {ac : Fp} {D : List (Bool × List (Int × Int × Int) × List (Int × Int × Int))} {ap : Int} {ak : Int} {u : Int} {w : Int} {ag : Int} {via : Int} {r : Bool × Er × List (Bool × List (Int × Int × Int) × List (Int × Int × Int)) × Int}
    (U : WF H) (ab : Nd Zc 3 H e D ac []) (O : Row H V [e, i_ ap, i_ ak]) (aq : Dj [V] ac) (bf : ZaO D ap ak u w ag via = some r) :
    ACalls Tryz.prog 20 #[pt_ V 0, i_ u, i_ w, .int .u64 ag, i_ via] H fun v H' => ∃ (v3 : Value) (aC : Fp) (aD : Fp), v = .tuple #[.bool r.1, v3] /\ FrS ([V] ++ ac) H H' /\ Ev 48 82 H' v3 r.2.1 aC /\ Nd Zc 3 H' e r.2.2.1 aD [] /\ Row H' V [e, i_ ap, i_ r.2.2.2] /\ Inn [] H aC /\ Inn ac H aD /\ Dj aC aD := by
 refine ab_ Tryz.func20 ?_
 unfold ZaO at bf
 refine sn_ (sq_ fun co => Zl (sn_ ?_))
 refine wb_ false (fun h => by cases h) fun _ => ?_
 refine sq_ fun cp => ?_
 obtain ⟨bs, cf, bu⟩ := bs_ bf
 refine ZC (fun α aX => Has α [(0, pt_ V 0), (1, i_ u), (2, i_ w), (3, .int .u64 ag), (4, i_ via), (18, .bool bs)] /\ H = aX) (fun _ bm => ?_) (fun α aX hM => ?_)
 ·refine g_' (qs_ 2 ?_)
  obtain ⟨de, ci, bv⟩ := bs_ cf
  refine ck_ (ZZ U ab O ci) ?_
  rintro _ _ ⟨rfl, rfl⟩
  by_cases au : de = true
  ·have cN := Ze au bv
   rw [au]
   refine qs_ 4 ?_
   obtain ⟨dB, cj, cO⟩ := bs_ cN
   refine ck_ (ZZ U ab O cj) ?_
   rintro _ _ ⟨rfl, rfl⟩
   refine qs_ 3 (Za ?_)
   obtain rfl := oi_ cO
   exact bm _ _ ⟨ha_, rfl⟩
  have cP := Zi au bv
  rw [nb au]
  refine qs_ 8 (Za ?_)
  obtain rfl := oi_ cP
  exact bm _ _ ⟨ha_, rfl⟩
 obtain ⟨bc, rfl⟩ := hM
 obtain ⟨β, rfl⟩ := Zk bc
 clear bc
 refine cp _ _ ?_
 refine wb_ (bs) (fun aF => ?_) fun aF => ?_
 ·have cQ := Ze aF bu
  refine sn_ ?_
  refine Zh (ZD (Zf ?_))
  refine br_ [.bool false, .iface 48 (i_ 7)] ?_
  obtain rfl := oi_ cQ
  exact ⟨(.iface 48 (i_ 7)), [], ac, rfl, (fr_ U), Ev.no, ab, O, in_, ir_, dn_⟩
 have bw := ZM aF bu
 refine sn_ ?_
 refine wc_ (u = w) (fun aG => ?_) fun aG => ?_
 ·have cR := Ze aG bw
  refine sn_ ?_
  refine Zh (ZD (Zf ?_))
  refine br_ [.bool false, .iface 48 (i_ 1)] ?_
  obtain rfl := oi_ cR
  exact ⟨(.iface 48 (i_ 1)), [], ac, rfl, (fr_ U), Ev.no, ab, O, in_, ir_, dn_⟩
 have bx := Zi aG bw
 refine sn_ ?_
 refine wc_ (ag > 140737488355328) (fun aH => ?_) fun aH => ?_
 ·have cS := Ze aH bx
  refine sn_ ?_
  refine Zh (ZD (Zf ?_))
  refine br_ [.bool false, .iface 48 (i_ 8)] ?_
  obtain rfl := oi_ cS
  exact ⟨(.iface 48 (i_ 8)), [], ac, rfl, (fr_ U), Ev.no, ab, O, in_, ir_, dn_⟩
 have cT := Zi aH bx
 refine sq_ fun cr => ?_
 obtain ⟨bt, bh, bz⟩ := bs_ cT
 refine ZC (fun α aY => Has α [(0, pt_ V 0), (1, i_ u), (2, i_ w), (3, .int .u64 ag), (4, i_ via), (39, .bool bt)] /\ H = aY) (fun _ ay => ?_) (fun α aY hM => ?_)
 ·refine g_' (qs_ 1 ?_)
  refine sb_ (via < (-1)) (fun aI => ?_) fun aI => ?_
  ·have cU := Ze aI bh
   refine qs_ 25 (Za ?_)
   obtain rfl := oi_ cU
   exact ay _ _ ⟨ha_, rfl⟩
  have bA := Zi aI bh
  refine qs_ 5 (lr_ 102 0 (e) O (ab.ln_ 102 ?_))
  refine sb_ (via ≥ (D.length : Int)) (fun aJ => ?_) fun aJ => ?_
  ·have cV := Ze aJ bA
   refine qs_ 17 (Za ?_)
   obtain rfl := oi_ cV
   exact ay _ _ ⟨ha_, rfl⟩
  have bB := Zi aJ bA
  refine qs_ 3 ?_
  refine sb_ (via ≥ 0) (fun aK => ?_) fun aK => ?_
  ·have cW := Ze aK bB
   refine qs_ 4 (lr_ 102 0 (e) O (qs_ 1 ?_))
   obtain ⟨ai, cX⟩ := Zb cW
   refine ab.ix_ 102 ai.1 ai.2 (l_' (elp e 3 via.toNat 0) (Zy Tryz.prog 108 (elp e 3 via.toNat 0) 0) (Nd.fldq (d := 0) ab ai.1 ai.2 (by kernel_rfl)) ?_)
   obtain ⟨dz, dA, b8, dr⟩ := Nd.at ab ai.1 ai.2
   refine l_' (.bool ((gt D via).1)) (aL_ 4 (elp e 3 via.toNat 0) H) (b8 _ _ _ _ (by kernel_rfl)) (qs_ 4 (Za ?_))
   obtain rfl := oi_ cX
   exact ay _ _ ⟨ha_, rfl⟩
  have cY := Zi aK bB
  refine qs_ 13 (Za ?_)
  obtain rfl := oi_ cY
  exact ay _ _ ⟨ha_, rfl⟩
 obtain ⟨bd, rfl⟩ := hM
 obtain ⟨β, rfl⟩ := Zk bd
 clear bd
 refine cr _ _ ?_
 refine wb_ (bt) (fun aL => ?_) fun aL => ?_
 ·have cZ := Ze aL bz
  refine sn_ ?_
  refine Zh (ZD (Zf ?_))
  refine br_ [.bool false, .iface 48 (i_ 1)] ?_
  obtain rfl := oi_ cZ
  exact ⟨(.iface 48 (i_ 1)), [], ac, rfl, (fr_ U), Ev.no, ab, O, in_, ir_, dn_⟩
 have c0 := ZM aL bz
 refine Zg (co _ _ (sq_ fun cu => g_' (qs_ 3 ?_)))
 obtain ⟨aW, ck, c3⟩ := bs_ c0
 refine ck_ (ZdI U ab O ck) ?_
 rintro _ aZ ⟨rfl, aa⟩
 refine qs_ 5 (Za (cu _ _ (sq_ fun cv => sq_ fun cw => ?_)))
 obtain ⟨az, bi, bC⟩ := bs_ c3
 refine ZC (fun α a1 => Has α [(0, pt_ V 0), (1, i_ u), (2, i_ w), (3, .int .u64 ag), (4, i_ via), (13, .bool az.1), (79, .bool az.2)] /\ aZ = a1) (fun _ bn => ?_) (fun α a1 hM => ?_)
 ·refine g_' (q_ (.bool aW.2) (q_ (.bool aW.2) ?_))
  by_cases av : aW.2 = true
  ·have c4 := Ze av bi
   rw [av]
   refine qs_ 4 (Za ?_)
   obtain rfl := oi_ c4
   exact bn _ _ ⟨ha_, rfl⟩
  have c5 := Zi av bi
  rw [nb av]
  refine qs_ 4 (Za ?_)
  obtain rfl := oi_ c5
  exact bn _ _ ⟨ha_, rfl⟩
 obtain ⟨be, rfl⟩ := hM
 obtain ⟨β, rfl⟩ := Zk be
 clear be
 refine cw _ _ ?_
 refine wb_ (az.2) (fun aM => ?_) fun aM => ?_
 ·have c6 := Ze aM bC
  refine sn_ ?_
  refine Zh (Zf ?_)
  refine br_ [.bool false, .nilIface] ?_
  have c7 := (ab.fr aa dn_)
  have c8 := (O.frS aa dn_)
  obtain rfl := oi_ c6
  exact ⟨(.nilIface), [], ac, rfl, (fs_ U (fr_ U) aa in_), Ev.nil, c7, c8, in_, ir_, dn_⟩
 have cD := ZM aM bC
 refine Zg (cv _ _ (sq_ fun cm => sn_ ?_))
 obtain ⟨cz, bg, cE⟩ := bs_ cD
 refine ZC (fun α ad => Has α [(0, pt_ V 0), (1, i_ u), (2, i_ w), (3, .int .u64 ag), (4, i_ via)] /\ FrS [V] aZ ad /\ Row ad V [e, i_ ap, i_ cz]) (fun _ bl => ?_) (fun α ad hM => ?_)
 ·refine wb_ ((!az.1)) (fun aE => ?_) fun aE => ?_
  ·have cF := Ze aE bg
   refine g_' (qs_ 3 ?_)
   have bD := (O.frS aa dn_)
   refine lr_ 3 2 (i_ ak) bD ?_
   obtain ⟨bW, cG⟩ := Zb cF
   refine w_' ((ak + 1)) (Zo bW) (qs_ 2 ?_)
   obtain ⟨df, cA, bT, cH⟩ := rb_ 3 2 aa.wf bD (i_ (ak + 1)) [e, i_ ap, i_ (ak + 1)]
   refine ek_ cA (Za ?_)
   obtain rfl := oi_ cG
   exact bl _ _ ⟨ha_, (fs_ aa.wf (fr_ aa.wf) bT ir_), cH⟩
  have cI := ZM aE bg
  refine Zg ?_
  have c9 := (O.frS aa dn_)
  obtain rfl := oi_ cI
  exact bl _ _ ⟨ha_, (fr_ aa.wf), c9⟩
 obtain ⟨bb, am, aO⟩ := hM
 obtain ⟨β, rfl⟩ := Zk bb
 clear bb
 refine cm _ _ (sq_ fun cn => ?_)
 refine ZR [0, 1, 2, 3, 4, 5, 6, 7, 8, 9, 10, 11, 12, 13, 14, 15, 16, 17, 18, 19, 20] (by kernel_rfl) ?_
 refine es_ 3 ?_
 refine Zcz (e) (x := aL_ 102 (pt_ V 0) ad) (by kernel_rfl) (aO.l_) ?_
 refine es_ 4 (mr_ 102 0 (e) aO (es_ 1 ?_))
 obtain ⟨Y, cJ⟩ := Zb cE
 have aA := ((ab.fr aa dn_).fr am aq)
 refine aA.mx_ 102 Y.1 Y.2 (m_' (elp e 3 u.toNat 1) (Zy Tryz.prog 108 (elp e 3 u.toNat 0) 1) (Nd.fldq (d := 1) aA Y.1 Y.2 (by kernel_rfl)) ?_)
 obtain ⟨c_, dx, b6, bZ⟩ := Nd.at aA Y.1 Y.2
 have bo : KdS Zc 3 ad c_ ((gt D u).2.1) ac e 3 u.toNat 1 := bZ false (by simp)
 obtain ⟨bJ, cx, bL, rfl⟩ := bo.sq.form
 refine m_' (.slice bJ cx bL) (aL_ 92 (elp e 3 u.toNat 1) ad) (b6 _ _ _ _ (by kernel_rfl)) (es_ 4 ?_)
 obtain ⟨bU, dm, aw, b9, a2, ca, cc⟩ := Nd.borrow false aA Y.1 Y.2 (by simp) bo rfl
 have aS := Inn.sub' (H := ad) ca
 have aT := Inn.sub' (H := ad) cc
 have aw : Nd Zc 3 ad e D bU [(u.toNat, false)] := aw
 obtain ⟨al, cg, cK⟩ := bs_ cJ
 refine dk_ (ZfD am.wf b9 cg) ?_
 rintro dv bG ⟨_, dn, rfl, ah, bq, bj⟩
 obtain ⟨dg, dt, di, rfl⟩ := bq.form
 have ae := (t_ aa.n am.n)
 have bN := (aT.dj (Dj.symm aq) (O.ltF.le ae))
 have bE := (aO.frS ah bN)
 refine ⟨ZaP (y := aL_ 102 (pt_ V 0) bG) (by kernel_rfl) (bE.l_) (ZL), ?_⟩
 have aP := (aw.fr ah (Dj.symm a2))
 refine aP.mx_ 102 Y.1 Y.2 (m_' (elp e 3 u.toNat 1) (Zy Tryz.prog 108 (elp e 3 u.toNat 0) 1) (Nd.fldq (d := 1) aP Y.1 Y.2 (by kernel_rfl)) ?_)
 have bO := (bj.dj (Dj.symm a2) aw.lt)
 obtain ⟨af, a_, cB, ar, aj, bX⟩ := Nd.close (P := Tryz.prog) (t := 92) false ah.wf aP bq (Dj.symm bO) Y.1 Y.2 (by kernel_rfl) (by kernel_rfl) (by kernel_rfl)
 have aj : Nd Zc 3 af e (D.set u.toNat ((gt D u).1, al, (gt D u).2.2)) a_ [] := aj
 have aB := bX.grow3 (Inn.trans ir_ (Nat.le_refl _) aS) (Inn.trans (Inn.trans ir_ (Nat.le_refl _) aT) (Nat.le_refl _) bj) ah.n
 refine fk_ cB (Zap (by kernel_rfl) (ZL)) ?_
 refine ZK ?_
 refine cn _ _ (sq_ fun cq => ?_)
 refine ZR [0, 1, 2, 3, 4, 5, 6, 7, 8, 9, 10, 11, 12, 13, 14, 15, 16, 17, 18, 19, 20] (by kernel_rfl) ?_
 refine es_ 3 ?_
 have bP := (aS.dj (Dj.symm aq) (O.ltF.le ae))
 have aQ := (bE.frS ar bP)
 refine Zcz (e) (x := aL_ 102 (pt_ V 0) af) (by kernel_rfl) (aQ.l_) ?_
 refine es_ 4 (mr_ 102 0 (e) aQ (es_ 1 ?_))
 obtain ⟨Z, cL⟩ := Zb cK
 refine aj.mx_ 102 Z.1 Z.2 (m_' (elp e 3 w.toNat 2) (Zy Tryz.prog 108 (elp e 3 w.toNat 0) 2) (Nd.fldq (d := 2) aj Z.1 Z.2 (by kernel_rfl)) ?_)
 obtain ⟨dy, da, b7, b5⟩ := Nd.at aj Z.1 Z.2
 have bp : KdS Zc 3 af da ((gt (D.set u.toNat ((gt D u).1, al, (gt D u).2.2)) w).2.2) a_ e 3 w.toNat 2 := b5 true (by simp)
 obtain ⟨bK, cy, bM, rfl⟩ := bp.sq.form
 refine m_' (.slice bK cy bM) (aL_ 92 (elp e 3 w.toNat 2) af) (b7 _ _ _ _ (by kernel_rfl)) (es_ 4 ?_)
 obtain ⟨bV, dp, ax, b_, a6, cd, ce⟩ := Nd.borrow true aj Z.1 Z.2 (by simp) bp rfl
 have aU := Inn.sub' (H := af) cd
 have aV := Inn.sub' (H := af) ce
 have ax : Nd Zc 3 af e (D.set u.toNat ((gt D u).1, al, (gt D u).2.2)) bV [(w.toNat, true)] := ax
 obtain ⟨dd, ch, cM⟩ := bs_ cL
 refine dk_ (ZfD ar.wf b_ ch) ?_
 rintro dw bH ⟨_, dq, rfl, an, br, bk⟩
 obtain ⟨dh, du, dk, rfl⟩ := br.form
 have a7 := (aB.dj (Dj.symm aq) (O.ltF.le ae))
 have ao := (t_ (t_ (t_ aa.n am.n) ah.n) ar.n)
 have bQ := (aV.dj a7 (O.ltF.le ao))
 have bF := (aQ.frS an bQ)
 refine ⟨ZaP (y := aL_ 102 (pt_ V 0) bH) (by kernel_rfl) (bF.l_) (ZL), ?_⟩
 have aR := (ax.fr an (Dj.symm a6))
 refine aR.mx_ 102 Z.1 Z.2 (m_' (elp e 3 w.toNat 2) (Zy Tryz.prog 108 (elp e 3 w.toNat 0) 2) (Nd.fldq (d := 2) aR Z.1 Z.2 (by kernel_rfl)) ?_)
 have bR := (bk.dj (Dj.symm a6) ax.lt)
 obtain ⟨bI, ba, cC, a8, aN, bY⟩ := Nd.close (P := Tryz.prog) (t := 92) true an.wf aR br (Dj.symm bR) Z.1 Z.2 (by kernel_rfl) (by kernel_rfl) (by kernel_rfl)
 have aN : Nd Zc 3 bI e ((D.set u.toNat ((gt D u).1, al, (gt D u).2.2)).set w.toNat ((gt (D.set u.toNat ((gt D u).1, al, (gt D u).2.2)) w).1, (gt (D.set u.toNat ((gt D u).1, al, (gt D u).2.2)) w).2.1, dd)) ba [] := aN
 have dc := bY.grow3 (Inn.trans ir_ (Nat.le_refl _) aU) (Inn.trans (Inn.trans ir_ (Nat.le_refl _) aV) (Nat.le_refl _) bk) an.n
 refine fk_ cC (Zap (by kernel_rfl) (ZL)) ?_
 refine ZK ?_
 refine cq _ _ (sn_ ?_)
 refine Zh ?_
 refine br_ [.bool true, .nilIface] ?_
 have bS := (aU.dj a7 (O.ltF.le ao))
 have db := (bF.frS a8 bS)
 obtain rfl := oi_ cM
 exact ⟨(.nilIface), [], ba, rfl, (fs_ U (fs_ U (fs_ U (fs_ U (fs_ U (fs_ U (fr_ U) aa in_) am Inn.left) ah (Inn.trans (Inn.right ir_) ae aT)) ar (Inn.trans (Inn.right ir_) ae aS)) an (Inn.trans (Inn.trans (Inn.right ir_) ae aB) ao aV)) a8 (Inn.trans (Inn.trans (Inn.right ir_) ae aB) ao aU)), Ev.nil, aN, db, in_, (Inn.trans (Inn.trans ir_ ae aB) ao dc), dn_⟩
theorem ZcO {H : AH} {U : Value} {ai : Fp} {aa : Value} {aj : Fp} {D : List (Bool)} {Arcs : List (Int × Int × Int × Int)} {e : Int} {r : Bool}
    (Y : WF H) (af : Sq Zaz 1 H U D ai) (ak : Sq Zn 4 H aa Arcs aj) (ab : Z5 D Arcs e = some r) :
    ACalls Tryz.prog 7 #[.agg #[U, aa], i_ e] H fun v H' => v = .bool r /\ FrS [] H H' := by
 refine ab_ Tryz.func7 ?_
 unfold Z5 at ab
 refine sq_ fun k1 => g_' ?_
 refine ZaK Y [U, aa] (Zu (af.one1) (Zu (ak.one1) (Z1))) (by kernel_rfl) fun b2 ap V aq ah => ?_
 refine qs_ 1 (Za (k1 _ _ (sq_ fun ac => g_' (qs_ 1 ?_))))
 refine sb_ (e ≥ 0) (fun Z => ?_) fun Z => ?_
 ·have ag := Ze Z ab
  refine qs_ 3 (lr_ 31 0 (U) ah ?_)
  have ad := (af.ext V)
  refine ad.ln_ 31 ?_
  refine sb_ (e < (D.length : Int)) (fun O => ?_) fun O => ?_
  ·have al := Ze O ag
   refine qs_ 3 (lr_ 31 0 (U) ah (qs_ 1 ?_))
   obtain ⟨ae, am⟩ := Zb al
   refine ad.ix_ 31 ae O (le_ 4 0 (.bool (gt D e)) ad ae O (qs_ 2 (Za (ac _ _ ?_))))
   refine Zh ?_
   refine br_ [.bool (gt D e)] ?_
   obtain rfl := oi_ am
   exact ⟨rfl, ((f0_ Y).extR V)⟩
  have an := Zi O ag
  refine qs_ 9 (Za (ac _ _ ?_))
  refine Zh ?_
  refine br_ [.bool false] ?_
  obtain rfl := oi_ an
  exact ⟨rfl, ((f0_ Y).extR V)⟩
 have ao := Zi Z ab
 refine qs_ 15 (Za (ac _ _ ?_))
 refine Zh ?_
 refine br_ [.bool false] ?_
 obtain rfl := oi_ ao
 exact ⟨rfl, ((f0_ Y).extR V)⟩
end Go.Vd

/-! (KSc6) -/

set_option maxRecDepth 100000
set_option maxHeartbeats 4000000
set_option linter.unusedVariables false
namespace Go.Vd
open Go.Proofs
attribute [local irreducible] Zp Zq aWp
theorem ZfB {H : AH} {Y : Value} {bd : Fp} {ab : Value} {be : Fp} {ad : List (Bool)} {Arcs : List (Int × Int × Int × Int)} {u : Int} {w : Int} {ah : Int} {via : Int} {r : Int}
    (e : WF H) (aw : Sq Zaz 1 H Y ad bd) (aD : Sq Zn 4 H ab Arcs be) (aG : ZbB ad Arcs u w ah via = some r) :
    ACalls Tryz.prog 21 #[.agg #[Y, ab], i_ u, i_ w, .int .u64 ah, i_ via] H fun v H' => v = .agg #[i_ r, .slice none 0 0] /\ FrS [] H H' := by
 refine ab_ Tryz.func21 ?_
 unfold ZbB at aG
 refine sq_ fun k1 => g_' ?_
 refine ZaK e [Y, ab] (Zu (aw.one1) (Zu (aD.one1) (Z1))) (by kernel_rfl) fun b2 cd U ci aP => ?_
 refine rk_ U.wf [i_ 0, .slice none 0 0] fun V a6 O aa ac => ?_
 refine Za (k1 _ _ (sq_ fun bo => Zl (sq_ fun bp => ?_)))
 obtain ⟨aJ, bf, aM⟩ := bs_ aG
 refine ZC (fun α ai => Has α [(1, i_ u), (2, i_ w), (3, .int .u64 ah), (4, i_ via), (5, pt_ b2 0), (10, pt_ V 0), (11, .bool aJ)] /\ FrS [] a6 ai) (fun _ aI => ?_) (fun α ai hM => ?_)
 ·refine g_' ?_
  have aU := (aP.ext O)
  refine lr_ 34 0 (.agg #[Y, ab]) aU (qs_ 1 ?_)
  have aV := ((aw.ext U).ext O)
  have aW := ((aD.ext U).ext O)
  obtain ⟨b_, bh, aN⟩ := bs_ bf
  refine ck_ (ZcO O.wf aV aW bh) ?_
  rintro _ cc ⟨rfl, Z⟩
  by_cases af : b_ = true
  ·have bJ := Ze af aN
   rw [af]
   refine qs_ 2 ?_
   have bZ := (aU.frS Z dn_)
   refine lr_ 34 0 (.agg #[Y, ab]) bZ (qs_ 1 ?_)
   have b5 := (aV.fr Z dn_)
   have b6 := (aW.fr Z dn_)
   obtain ⟨cj, bi, bK⟩ := bs_ bJ
   refine ck_ (ZcO Z.wf b5 b6 bi) ?_
   rintro _ ce ⟨rfl, a_⟩
   refine qs_ 3 (Za ?_)
   obtain rfl := oi_ bK
   exact aI _ _ ⟨ha_, (fs_ O.wf (fs_ O.wf (fr_ O.wf) Z in_) a_ in_)⟩
  have bL := Zi af aN
  rw [nb af]
  refine qs_ 8 (Za ?_)
  obtain rfl := oi_ bL
  exact aI _ _ ⟨ha_, (fs_ O.wf (fr_ O.wf) Z in_)⟩
 obtain ⟨aE, D⟩ := hM
 obtain ⟨β, rfl⟩ := Zk aE
 clear aE
 refine bp _ _ ?_
 refine wb_ (aJ) (fun ap => ?_) fun ap => ?_
 ·have bM := Ze ap aM
  refine sq_ fun bq => g_' ?_
  obtain ⟨az, bj, bN⟩ := bs_ bM
  refine ck_ (ZaR D.wf bj) ?_
  rintro _ cf ⟨rfl, ak⟩
  have b7 := ((ac.frS D dn_).frS ak dn_)
  obtain ⟨aZ, bw, ba, bO⟩ := ra_ 46 0 ak.wf b7 [i_ az, .slice none 0 0] [i_ az, .slice none 0 0]
  refine ek_ bw (Za (bq _ _ ?_))
  refine Zh (ZD (Zf ?_))
  refine Zac (vs := [.agg #[i_ az, .slice none 0 0]]) (ZQ (Eq.trans (b := aL_ 46 (pt_ V 0) aZ) (by kernel_rfl) (bO.l_)) (rfl)) ?_
  obtain rfl := oi_ bN
  exact ⟨rfl, (fs_ e (fs_ e (fs_ e (((f0_ e).extR U).extR O) D in_) ak in_) ba (aa.fresh U.n))⟩
 have aO := ZM ap aM
 refine sn_ ?_
 refine wc_ (u = w) (fun aq => ?_) fun aq => ?_
 ·have bP := Ze aq aO
  refine sq_ fun br => g_' ?_
  obtain ⟨aA, bk, bQ⟩ := bs_ bP
  refine ck_ (ZaR D.wf bk) ?_
  rintro _ cg ⟨rfl, al⟩
  have b8 := ((ac.frS D dn_).frS al dn_)
  obtain ⟨a1, bx, bb, bR⟩ := ra_ 46 0 al.wf b8 [i_ aA, .slice none 0 0] [i_ aA, .slice none 0 0]
  refine ek_ bx (Za (br _ _ ?_))
  refine Zh (ZD (Zf ?_))
  refine Zac (vs := [.agg #[i_ aA, .slice none 0 0]]) (ZQ (Eq.trans (b := aL_ 46 (pt_ V 0) a1) (by kernel_rfl) (bR.l_)) (rfl)) ?_
  obtain rfl := oi_ bQ
  exact ⟨rfl, (fs_ e (fs_ e (fs_ e (((f0_ e).extR U).extR O) D in_) al in_) bb (aa.fresh U.n))⟩
 have aQ := Zi aq aO
 refine sn_ ?_
 refine wc_ (ah > 140737488355328) (fun ar => ?_) fun ar => ?_
 ·have bS := Ze ar aQ
  refine sq_ fun bs => g_' ?_
  obtain ⟨aB, bl, bT⟩ := bs_ bS
  refine ck_ (ZaR D.wf bl) ?_
  rintro _ ch ⟨rfl, am⟩
  have b9 := ((ac.frS D dn_).frS am dn_)
  obtain ⟨a2, bz, bc, bU⟩ := ra_ 46 0 am.wf b9 [i_ aB, .slice none 0 0] [i_ aB, .slice none 0 0]
  refine ek_ bz (Za (bs _ _ ?_))
  refine Zh (ZD (Zf ?_))
  refine Zac (vs := [.agg #[i_ aB, .slice none 0 0]]) (ZQ (Eq.trans (b := aL_ 46 (pt_ V 0) a2) (by kernel_rfl) (bU.l_)) (rfl)) ?_
  obtain rfl := oi_ bT
  exact ⟨rfl, (fs_ e (fs_ e (fs_ e (((f0_ e).extR U).extR O) D in_) am in_) bc (aa.fresh U.n))⟩
 have bV := Zi ar aQ
 refine sq_ fun bt => ?_
 obtain ⟨aK, aH, aR⟩ := bs_ bV
 refine ZC (fun α aC => Has α [(10, pt_ V 0), (32, .bool aK)] /\ ai = aC) (fun _ ag => ?_) (fun α aC hM => ?_)
 ·refine g_' (qs_ 1 ?_)
  refine s_bn (via = (-1)) (by kernel_rfl) (fun au => ?_) (fun au => ?_)
  ·have bW := Ze au aH
   refine qs_ 19 (Za ?_)
   obtain rfl := oi_ bW
   exact ag _ _ ⟨ha_, rfl⟩
  have aS := Zi au aH
  refine qs_ 2 ?_
  refine sb_ (via < 0) (fun av => ?_) fun av => ?_
  ·have bA := Ze av aS
   refine qs_ 16 (Za ?_)
   obtain rfl := oi_ bA
   exact ag _ _ ⟨ha_, rfl⟩
  have aL := Zi av aS
  refine qs_ 3 ?_
  have aT := ((aP.ext O).frS D dn_)
  refine lr_ 31 0 (Y) aT ?_
  have ax := (((aw.ext U).ext O).fr D dn_)
  refine ax.ln_ 31 ?_
  refine sb_ (via ≥ (ad.length : Int)) (fun an => ?_) fun an => ?_
  ·have bB := Ze an aL
   refine qs_ 10 (Za ?_)
   obtain rfl := oi_ bB
   exact ag _ _ ⟨ha_, rfl⟩
  have bC := Zi an aL
  refine qs_ 3 (lr_ 31 0 (Y) aT (qs_ 1 ?_))
  obtain ⟨ae, bD⟩ := Zb bC
  refine ax.ix_ 31 ae.1 ae.2 (le_ 4 0 (.bool (gt ad via)) ax ae.1 ae.2 (qs_ 3 (Za ?_)))
  obtain rfl := oi_ bD
  exact ag _ _ ⟨ha_, rfl⟩
 obtain ⟨aF, rfl⟩ := hM
 obtain ⟨β, rfl⟩ := Zk aF
 clear aF
 refine bt _ _ ?_
 refine wb_ (aK) (fun ao => ?_) fun ao => ?_
 ·have bE := Ze ao aR
  refine sq_ fun bm => g_' ?_
  obtain ⟨ay, bg, bF⟩ := bs_ bE
  refine ck_ (ZaR D.wf bg) ?_
  rintro _ ca ⟨rfl, aj⟩
  have bX := ((ac.frS D dn_).frS aj dn_)
  obtain ⟨aX, bu, a7, bG⟩ := ra_ 46 0 aj.wf bX [i_ ay, .slice none 0 0] [i_ ay, .slice none 0 0]
  refine ek_ bu (Za (bm _ _ ?_))
  refine Zh (ZD (Zf ?_))
  refine Zac (vs := [.agg #[i_ ay, .slice none 0 0]]) (ZQ (Eq.trans (b := aL_ 46 (pt_ V 0) aX) (by kernel_rfl) (bG.l_)) (rfl)) ?_
  obtain rfl := oi_ bF
  exact ⟨rfl, (fs_ e (fs_ e (fs_ e (((f0_ e).extR U).extR O) D in_) aj in_) a7 (aa.fresh U.n))⟩
 have bH := ZM ao aR
 refine Zg (bo _ _ (sq_ fun bn => g_' (qs_ 1 ?_)))
 have bY := (ac.frS D dn_)
 obtain ⟨aY, bv, a8, bI⟩ := ra_ 46 0 D.wf bY [i_ 0, .slice none 0 0] [i_ 0, .slice none 0 0]
 refine ek_ bv (Za (bn _ _ ?_))
 refine Zh ?_
 refine Zac (vs := [.agg #[i_ 0, .slice none 0 0]]) (ZQ (Eq.trans (b := aL_ 46 (pt_ V 0) aY) (by kernel_rfl) (bI.l_)) (rfl)) ?_
 obtain rfl := oi_ bH
 exact ⟨rfl, (fs_ e (fs_ e (((f0_ e).extR U).extR O) D in_) a8 (aa.fresh U.n))⟩
theorem ZeI {H : AH} {aJ : Value} {cC : Fp} {ag : Value} {a2 : Fp} {bk : List (Bool)} {Arcs : List (Int × Int × Int × Int)} {ak : Int} {an : Int} {al : Int} {aC : Int} {r : List (Int × Int × Int × Int) × Bool}
    (ah : WF H) (az : Sq Zaz 1 H aJ bk cC) (aI : Sq Zn 4 H ag Arcs a2) (bK : Zby bk Arcs ak an al aC = some r) :
    ACalls Tryz.prog 23 #[.agg #[aJ, ag], .agg #[i_ ak, i_ an, .int .u64 al, i_ aC]] H fun v H' => ∃ (bZ : Value) (bA : Fp), v = .tuple #[.agg #[aJ, bZ], .bool r.2] /\ FrS [] H H' /\ Sq Zn 4 H' bZ r.1 bA /\ Inn a2 H bA := by
 refine ab_ Tryz.func23 ?_
 unfold Zby at bK
 refine sq_ fun cW => g_' ?_
 refine ZaK ah [aJ, ag] (Zu (az.one1) (Zu (aI.one1) (Z1))) (by kernel_rfl) fun bm ea ai el bg => ?_
 refine rl_ ai.wf [i_ ak, i_ an, .int .u64 al, i_ aC] fun aW d2 ae em av => ?_
 refine rk_ ae.wf [.slice none 0 0, .slice none 0 0] fun aD d6 U a_ aj => ?_
 refine qs_ 1 (Za (cW _ _ (sq_ fun cT => g_' (qs_ 1 ?_))))
 have b8 := ((bg.ext ae).ext U)
 refine lr_ 31 0 (aJ) b8 ?_
 have b9 := (((az.ext ai).ext ae).ext U)
 obtain ⟨ab, ad, ac, rfl⟩ := b9.form
 refine qs_ 1 ?_
 refine rk_ U.wf [.slice none 0 0, .slice none 0 0] fun aw d_ V Z ax => ?_
 have b_ := (b9.ext V)
 obtain ⟨aN, dq, D, dI⟩ := ra_ 34 0 V.wf ax [.slice ab ad ac, .slice none 0 0] [.slice ab ad ac, .slice none 0 0]
 refine ek_ dq (Za (cT _ _ (sn_ (sq_ fun cU => sq_ fun cV => g_' (qs_ 1 ?_)))))
 have df := (t_ ae.n U.n)
 have bu := (Z.djn (bg.ltF.le df))
 have ca := ((b8.ext V).frS D bu)
 refine lr_ 32 1 (ag) ca ?_
 have au := (t_ (t_ ai.n ae.n) U.n)
 have bv := (Z.djn (aI.lt.le au))
 have cc := (((((aI.ext ai).ext ae).ext U).ext V).fr D bv)
 refine cc.ln_ 32 (qs_ 1 (Za (cV _ _ ?_)))
 obtain ⟨cd, cK, bY⟩ := bs_ bK
 refine ZC (fun α aO => ∃ bf, cd = Sum.inr bf /\ ∃ (bh : Value) (a1 : Fp), Has α [(3, pt_ aW 0), (4, pt_ aD 0), (6, pt_ aw 0), (7, .bool true)] /\ FrS [aw] aN aO /\ Ow Zn 4 aO bh bf a1 /\ Row aO aw [.slice ab ad ac, bh] /\ Inn [] aN a1) (fun _ cX => ?_) (fun α aO hM => ?_)
 ·refine Zl ?_
  obtain ⟨bT, cI⟩ := Zt.1 cK
  refine ZI (fun n α aP => ∃ (e : Int), ∃ (aB : List (Int × Int × Int × Int)), ∃ (bi : Value), ∃ (aG : Fp), ZO (fun zz_ => Zbu Arcs ak an al zz_.1 zz_.2) n (e, aB) = some cd /\ Has α [(2, pt_ bm 0), (3, pt_ aW 0), (4, pt_ aD 0), (6, pt_ aw 0), (7, .bool true), (14, ag), (15, i_ (Arcs.length : Int)), (16, i_ e)] /\ FrS [aw] aN aP /\ Ow Zn 4 aP bi aB aG /\ Row aP aw [.slice ab ad ac, bi] /\ Inn [] aN aG) bT ⟨0, [], (.slice none 0 0), [], cI, ha_, (fr_ D.wf), (Ow.nil (by decide)), dI, in_⟩ ?_
  rintro bT α aP ⟨e, aB, bi, aG, cH, bF, O, aA, bb, aM⟩ ec bO
  obtain ⟨bU, d1, rfl, aK, aS⟩ := Zx cH
  obtain ⟨β, rfl⟩ := Zk bF
  clear bF
  replace aK : Zbu Arcs ak an al e aB = some d1 := aK
  unfold Zbu at aK
  obtain ⟨aV, be, aX, rfl⟩ := aA.form
  refine sn_ (sq_ fun cY => ?_)
  refine wc_ (e < (Arcs.length : Int)) (fun aH => ?_) fun aH => ?_
  ·have dJ := Ze aH aK
   refine Zg (cY _ _ (sq_ fun bP => Zl (sq_ fun cZ => g_' ?_)))
   obtain ⟨bB, dK⟩ := Zb dJ
   have bj := (cc.fr O bv)
   refine bj.ix_ 32 bB aH (le_ 75 0 (.agg #[i_ ((gt Arcs e).1), i_ ((gt Arcs e).2.1), .int .u64 ((gt Arcs e).2.2.1), i_ ((gt Arcs e).2.2.2)]) bj bB aH ?_)
   refine rk_ O.wf [i_ 0, i_ 0, .int .u64 0, i_ 0] fun ci eb aa af dr => ?_
   obtain ⟨ce, dg, Y, aU⟩ := ra_ 75 0 aa.wf dr [i_ ((gt Arcs e).1), i_ ((gt Arcs e).2.1), .int .u64 ((gt Arcs e).2.2.1), i_ ((gt Arcs e).2.2.2)] [i_ ((gt Arcs e).1), i_ ((gt Arcs e).2.1), .int .u64 ((gt Arcs e).2.2.1), i_ ((gt Arcs e).2.2.2)]
   refine ek_ dg (Za (cZ _ _ (sq_ fun cM => sq_ fun cN => ?_)))
   obtain ⟨bV, bM, bW⟩ := bs_ dK
   refine ZC (fun α bl => Has α [(2, pt_ bm 0), (3, pt_ aW 0), (4, pt_ aD 0), (6, pt_ aw 0), (7, .bool true), (9, pt_ ci 0), (14, ag), (15, i_ (Arcs.length : Int)), (16, i_ e), (31, .bool bV)] /\ ce = bl) (fun _ bN => ?_) (fun α bl hM => ?_)
   ·refine g_' (qs_ 1 (lr_ 3 0 (i_ ((gt Arcs e).1)) aU (qs_ 1 ?_)))
    have bn := (Z.djn (av.ltF.le U.n))
    have c0 := (t_ (t_ (t_ U.n V.n) D.n) O.n)
    have ck := (af.djn (av.ltF.le c0))
    have b5 := ((((((av.ext U).ext V).frS D bn).frS O bn).ext aa).frS Y ck)
    refine lr_ 3 0 (i_ ak) b5 ?_
    refine sb_ (((gt Arcs e).1) = ak) (fun a6 => ?_) fun a6 => ?_
    ·have dt := Ze a6 bM
     refine qs_ 2 (lr_ 3 1 (i_ ((gt Arcs e).2.1)) aU (qs_ 1 (lr_ 3 1 (i_ an) b5 (qs_ 2 (Za ?_)))))
     obtain rfl := oi_ dt
     exact bN _ _ ⟨ha_, rfl⟩
    have du := Zi a6 bM
    refine qs_ 7 (Za ?_)
    obtain rfl := oi_ du
    exact bN _ _ ⟨ha_, rfl⟩
   obtain ⟨bD, rfl⟩ := hM
   obtain ⟨β, rfl⟩ := Zk bD
   clear bD
   refine cN _ _ ?_
   refine wb_ (bV) (fun a7 => ?_) fun a7 => ?_
   ·have bX := Ze a7 bW
    refine sq_ fun cO => sq_ fun cP => g_' (qs_ 1 (lr_ 61 2 (.int .u64 ((gt Arcs e).2.2.1)) aU (qs_ 1 ?_)))
    have bo := (Z.djn (av.ltF.le U.n))
    have c3 := (t_ (t_ (t_ U.n V.n) D.n) O.n)
    have cm := (af.djn (av.ltF.le c3))
    have dL := ((((((av.ext U).ext V).frS D bo).frS O bo).ext aa).frS Y cm)
    refine lr_ 61 2 (.int .u64 al) dL (qs_ 1 (Za (cP _ _ ?_)))
    refine wc_ (((gt Arcs e).2.2.1) ≤ al) (fun a8 => ?_) fun a8 => ?_
    ·have dv := Ze a8 bX
     refine sq_ fun cQ => g_' ?_
     have c4 := (t_ (t_ (t_ (t_ ae.n U.n) V.n) D.n) O.n)
     have cn := (af.djn (bg.ltF.le c4))
     have dM := (((ca.frS O bu).ext aa).frS Y cn)
     refine lr_ 34 0 (.agg #[.slice ab ad ac, ag]) dM ?_
     have c5 := (t_ (t_ V.n D.n) O.n)
     have co := (af.djn (aj.ltF.le c5))
     have dN := (((((aj.ext V).frS D (Z.djn aj.ltF)).frS O (Z.djn aj.ltF)).ext aa).frS Y co)
     have bc := (t_ (t_ (t_ (t_ (t_ ai.n ae.n) U.n) V.n) D.n) O.n)
     have cp := (af.djn (aI.lt.le bc))
     have b6 := ((bj.ext aa).fr Y cp)
     have bp := (Z.djn (az.lt.le au))
     have cq := (af.djn (az.lt.le bc))
     have dO := ((((b_.fr D bp).fr O bp).ext aa).fr Y cq)
     obtain ⟨cf, dh, bw, dw⟩ := Row.store (P := Tryz.prog) (t := 34) (p := 0) Y.wf dN (.agg #[.slice ab ad ac, ag]) [.slice ab ad ac, ag] (by kernel_rfl) (by kernel_rfl) (Zu (dO.one1) (Zu (b6.one1) (Z1))) (Nat.le_of_ble_eq_true (by kernel_rfl)) [.slice ab ad ac, ag] (by kernel_rfl)
     refine ek_ dh (qs_ 1 (Za (cQ _ _ ?_)))
     refine Zh (Zf (Zf (ZD (Zf (Zf (ZD (Zf (Zf ?_))))))))
     obtain ⟨ey, bL, cL⟩ := map_some dv
     subst cL
     obtain rfl := Zv aS
     have cJ := elim_inl bY
     rw [cJ] at bL
     refine Zac (vs := [.agg #[.slice ab ad ac, ag], .bool false]) (ZQ (Eq.trans (b := aL_ 34 (pt_ aD 0) cf) (by kernel_rfl) (dw.l_)) (rt_ (rfl))) ?_
     have bS := (t_ ai.n ae.n)
     have cr := (a_.djn (aI.lt.le bS))
     have dP := (b6.fr bw cr)
     obtain rfl := oi_ bL
     exact ⟨(ag), a2, rfl, (fs_ ah (fs_ ah ((fs_ ah (fs_ ah (((((f0_ ah).extR ai).extR ae).extR U).extR V) D (Z.fresh au)) O (Z.fresh au)).extR aa) Y (af.fresh bc)) bw (a_.fresh bS)), dP, ir_⟩
    have dx := Zi a8 bX
    refine Zg (cO _ _ ?_)
    refine ZH (Zj (ZT ?_))
    refine bP _ _ (g_' ?_)
    obtain ⟨cD, dy⟩ := Zb dx
    refine w_' ((e + 1)) (Zo (by have := cD; omega)) (qs_ 1 (Za ?_))
    have dQ := ((aA.ext aa).fr Y (af.djn aA.lt))
    have c6 := (t_ D.n O.n)
    have cu := (af.djn (ax.ltF.le c6))
    have dR := ((bb.ext aa).frS Y cu)
    obtain rfl := oi_ dy
    exact bO bU _ _ lt_ ⟨(e + 1), aB, (.slice aV be aX), aG, aS, ha_, (fs_ D.wf ((fs_ D.wf (fr_ D.wf) O ir_).extR aa) Y (af.fresh O.n)), dQ, dR, (aM.fresh (Nat.le_refl _))⟩
   have dz := ZM a7 bW
   refine Zg (cM _ _ (g_' (qs_ 1 ?_)))
   have c7 := (t_ D.n O.n)
   have cv := (af.djn (ax.ltF.le c7))
   have b7 := ((bb.ext aa).frS Y cv)
   refine lr_ 32 1 (.slice aV be aX) b7 (lr_ 75 0 (.agg #[i_ ((gt Arcs e).1), i_ ((gt Arcs e).2.1), .int .u64 ((gt Arcs e).2.2.1), i_ ((gt Arcs e).2.2.2)]) aU ?_)
   refine Zbo (enc := Zn) (sz := 4) Y.wf [((gt Arcs e).1, (gt Arcs e).2.1, (gt Arcs e).2.2.1, (gt Arcs e).2.2.2)] 1 (by decide) (fun _ _ => rfl) (fun _ _ => rfl) rfl (by kernel_rfl) fun et ej d3 ay eo bG => ?_
   obtain ⟨ed, eq, ef, rfl⟩ := bG.form
   have dS := (((aA.ext aa).fr Y (af.djn aA.lt)).ext ay)
   obtain ⟨cE, dA⟩ := Zb dz
   obtain ⟨eu, d4, cA, di, aZ, bH, bC⟩ := Ow.append (P := Tryz.prog) 32 ay.wf dS bG.sq (fun _ _ => rfl) (at_ := #[32, 32]) rfl rfl (by kernel_rfl) (by kernel_rfl) (by decide) (by have := cE; first | omega | (simp only [List.length_cons, List.length_nil] at this ⊢; omega) | (simp at this ⊢; omega))
   obtain ⟨aQ, aT, aR, rfl⟩ := bH.form
   refine ZaL (.slice aQ aT aR) (by kernel_rfl) (di) ?_
   refine qs_ 1 ?_
   have bq := (aM.djn (ax.ltF.le D.n))
   have dT := ((b7.ext ay).frS aZ bq)
   obtain ⟨d5, dk, bx, dB⟩ := rb_ 32 1 aZ.wf dT (.slice aQ aT aR) [.slice ab ad ac, .slice aQ aT aR]
   refine ek_ dk (Za (bP _ _ (g_' ?_)))
   obtain ⟨cF, dC⟩ := Zb dA
   refine w_' ((e + 1)) (Zo (by have := cF; omega)) (qs_ 1 (Za ?_))
   have c8 := (t_ (t_ (t_ (t_ D.n O.n) aa.n) Y.n) ay.n)
   have cw := (bC.dj bq (ax.ltF.le c8))
   have dU := (bH.fr bx (Dj.symm cw))
   have c9 := (t_ (t_ (t_ O.n aa.n) Y.n) ay.n)
   obtain rfl := oi_ dC
   exact bO bU _ _ lt_ ⟨(e + 1), (aB ++ [((gt Arcs e).1, (gt Arcs e).2.1, (gt Arcs e).2.2.1, (gt Arcs e).2.2.2)]), (.slice aQ aT aR), cA, aS, ha_, (fs_ D.wf (fs_ D.wf ((fs_ D.wf ((fs_ D.wf (fr_ D.wf) O ir_).extR aa) Y (af.fresh O.n)).extR ay) aZ (aM.fresh (Nat.le_refl _))) bx ir_), dU, dB, (Inn.trans (aM.fresh (Nat.le_refl _)) c9 bC)⟩
  have dD := Zi aH aK
  refine ZH (Zj (Zj (ZT ?_)))
  obtain rfl := oi_ dD
  obtain rfl := Zv aS
  exact cX _ _ ⟨_, rfl, (.slice aV be aX), aG, ha_, (fs_ D.wf (fr_ D.wf) O ir_), aA, bb, (aM.fresh (Nat.le_refl _))⟩
 obtain ⟨bf, rfl, bh, a1, bE, aq, bQ, bR, aL⟩ := hM
 have dE := elim_inr bY
 obtain ⟨β, rfl⟩ := Zk bE
 clear bE
 obtain ⟨ch, c_, cj, rfl⟩ := bQ.form
 refine cU _ _ (sq_ fun cR => g_' (qs_ 1 (lr_ 32 1 (.slice ch c_ cj) bR ?_)))
 have br := (Z.djn (av.ltF.le U.n))
 have dV := ((((av.ext U).ext V).frS D br).frS aq br)
 refine lr_ 75 0 (.agg #[i_ ak, i_ an, .int .u64 al, i_ aC]) dV ?_
 refine Zbo (enc := Zn) (sz := 4) aq.wf [(ak, an, al, aC)] 1 (by decide) (fun _ _ => rfl) (fun _ _ => rfl) rfl (by kernel_rfl) fun ev ek d7 am ep bI => ?_
 obtain ⟨ee, es, eh, rfl⟩ := bI.form
 have dW := (bQ.ext am)
 obtain ⟨cG, dF⟩ := Zb dE
 obtain ⟨ew, d8, cB, dm, aE, bJ, ba⟩ := Ow.append (P := Tryz.prog) 32 am.wf dW bI.sq (fun _ _ => rfl) (at_ := #[32, 32]) rfl rfl (by kernel_rfl) (by kernel_rfl) (by decide) (by have := cG; first | omega | (simp only [List.length_cons, List.length_nil] at this ⊢; omega) | (simp at this ⊢; omega))
 obtain ⟨ao, ar, ap, rfl⟩ := bJ.form
 refine ZaL (.slice ao ar ap) (by kernel_rfl) (dm) ?_
 refine qs_ 1 ?_
 have bs := (aL.djn (ax.ltF.le D.n))
 have dX := ((bR.ext am).frS aE bs)
 obtain ⟨d9, dn, aF, dG⟩ := rb_ 32 1 aE.wf dX (.slice ao ar ap) [.slice ab ad ac, .slice ao ar ap]
 refine ek_ dn (Za (cR _ _ (sq_ fun cS => g_' (lr_ 34 0 (.agg #[.slice ab ad ac, .slice ao ar ap]) dG (qs_ 1 ?_)))))
 have da := (t_ V.n D.n)
 have bt := (aL.djn (aj.ltF.le da))
 have dY := ((((((aj.ext V).frS D (Z.djn aj.ltF)).frS aq (Z.djn aj.ltF)).ext am).frS aE bt).frS aF (Z.djn aj.ltF))
 have db := (t_ (t_ D.n aq.n) am.n)
 have cx := (ba.dj bs (ax.ltF.le db))
 have dZ := (bJ.fr aF (Dj.symm cx))
 have aY := (Z.djn (az.lt.le au))
 have bd := (t_ (t_ (t_ (t_ ai.n ae.n) U.n) V.n) D.n)
 have cy := (aL.djn (az.lt.le bd))
 have ex := (((((b_.fr D aY).fr aq aY).ext am).fr aE cy).fr aF aY)
 obtain ⟨cg, dp, bz, dH⟩ := ra_ 34 0 aF.wf dY [.slice ab ad ac, .slice ao ar ap] [.slice ab ad ac, .slice ao ar ap]
 refine ek_ dp (qs_ 1 (Za (cS _ _ ?_)))
 refine Zh ?_
 refine Zac (vs := [.agg #[.slice ab ad ac, .slice ao ar ap], .bool true]) (ZQ (Eq.trans (b := aL_ 34 (pt_ aD 0) cg) (by kernel_rfl) (dH.l_)) (rt_ (rfl))) ?_
 have dc := (t_ ai.n ae.n)
 have dd := (t_ (t_ (t_ V.n D.n) aq.n) am.n)
 have cz := (ba.dj bt (aj.ltF.le dd))
 have d0 := (dZ.fr bz (Dj.symm cz))
 have de := (t_ (t_ (t_ (t_ (t_ (t_ ai.n ae.n) U.n) V.n) D.n) aq.n) am.n)
 obtain rfl := oi_ dF
 exact ⟨(.slice ao ar ap), cB, rfl, (fs_ ah (fs_ ah (fs_ ah ((fs_ ah (fs_ ah (((((f0_ ah).extR ai).extR ae).extR U).extR V) D (Z.fresh au)) aq (Z.fresh au)).extR am) aE (aL.fresh bd)) aF (Z.fresh au)) bz (a_.fresh dc)), d0.sq, (Inn.trans (aL.fresh bd) de ba)⟩
theorem ZeT {H : AH} {O : Value} {U : Fp} {l : List (Int × Int × Int)} {ai : Int} {r : List (Int × Int × Int)}
    (D : WF H) (Z : Ow Zc 3 H O l U) (ae : Zb3 l ai = some r) :
    ACalls Tryz.prog 45 #[O, i_ ai] H fun v H' => ∃ (ah : Value) (ac : Fp), v = ah /\ FrS U H H' /\ Ow Zc 3 H' ah r ac /\ Inn U H ac := by
 refine ab_ Tryz.func45 ?_
 unfold Zb3 at ae
 refine sn_ (sq_ fun aq => g_' (qs_ 2 ?_))
 obtain ⟨V, an, ag⟩ := bs_ ae
 refine ck_ (Zey D Z.sq an) ?_
 rintro _ az ⟨rfl, e⟩
 refine qs_ 5 (Za (aq _ _ (sq_ fun ao => sn_ ?_)))
 refine wb_ ((!V.2)) (fun Y => ?_) fun Y => ?_
 ·have ar := Ze Y ag
  refine sn_ ?_
  refine Zh (Zf ?_)
  refine br_ [O] ?_
  have ax := (Z.fr e dn_)
  obtain rfl := oi_ ar
  exact ⟨(O), U, rfl, (fs_ D (fr_ D) e in_), ax, ir_⟩
 have au := ZM Y ag
 refine Zg (ao _ _ (sq_ fun ap => g_' (qs_ 3 ?_)))
 obtain ⟨ak, av⟩ := Zb au
 refine w_' ((V.1 + 1)) (Zo ak) ?_
 have ay := (Z.fr e dn_)
 obtain ⟨al, aw⟩ := Zb av
 refine Zgu 69 #[O, i_ V.1, i_ (V.1 + 1)] (by kernel_rfl) (Zmk e.wf ay al) ?_
 rintro aB aA ⟨f28, aj, ad, am⟩
 obtain ⟨aa, af, ab, rfl⟩ := ad.form
 refine qs_ 1 (Za (ap _ _ ?_))
 refine Zh ?_
 refine br_ [.slice aa af ab] ?_
 obtain rfl := oi_ aw
 exact ⟨(.slice aa af ab), f28, rfl, (fs_ D (fs_ D (fr_ D) e in_) aj ir_), ad, (Inn.trans ir_ e.n am)⟩
theorem ZdJ {H : AH} {ae : Nat} {O : Value} {aM : Fp} {D : List (Bool × List (Int × Int × Int) × List (Int × Int × Int))} {av : Int} {an : Int} {e : Int} {r : Er × List (Bool × List (Int × Int × Int) × List (Int × Int × Int)) × Int × Int}
    (ah : WF H) (aX : Nd Zc 3 H O D aM []) (Z : Row H ae [O, i_ av, i_ an]) (bj : Dj aM [ae]) (ca : Zaw D av an e = some r) :
    ACalls Tryz.prog 24 #[pt_ ae 0, i_ e] H fun v H' => ∃ (v3 : Value) (bm : Fp) (bn : Fp), v = v3 /\ FrS ([ae] ++ aM) H H' /\ Ev 48 82 H' v3 r.1 bm /\ Nd Zc 3 H' O r.2.1 bn [] /\ Row H' ae [O, i_ r.2.2.1, i_ r.2.2.2] /\ Inn [] H bm /\ Inn aM H bn /\ Dj bm bn := by
 refine ab_ Tryz.func24 ?_
 unfold Zaw at ca
 refine sn_ (sq_ fun dI => sn_ ?_)
 refine wb_ false (fun h => by cases h) fun _ => ?_
 refine Zg (dI _ _ (sq_ fun dJ => sq_ fun dK => g_' (qs_ 2 ?_)))
 obtain ⟨eZ, dE, co⟩ := bs_ ca
 refine ck_ (ZZ ah aX Z dE) ?_
 rintro _ _ ⟨rfl, rfl⟩
 refine qs_ 1 (Za (dK _ _ ?_))
 refine wb_ ((!eZ)) (fun bo => ?_) fun bo => ?_
 ·have ez := Ze bo co
  refine sn_ ?_
  refine Zh (Zf ?_)
  refine br_ [.iface 48 (i_ 7)] ?_
  obtain rfl := oi_ ez
  exact ⟨(.iface 48 (i_ 7)), [], aM, rfl, (fr_ ah), Ev.no, aX, Z, in_, ir_, dn_⟩
 have eB := ZM bo co
 refine Zg (dJ _ _ (sq_ fun dS => g_' (qs_ 3 (lr_ 102 0 (O) Z (qs_ 1 ?_)))))
 obtain ⟨ag, eE⟩ := Zb eB
 refine aX.ix_ 102 ag.1 ag.2 ?_
 obtain ⟨fA, fB, aK, fm, fo, dm, br, a6, aP, bh, bi, fd, dy, dz, dA⟩ := Nd.open2 aX ag.1 ag.2
 have aw := Inn.sub' (H := H) dy
 have fC := Inn.sub' (H := H) dz
 have fD := Inn.sub' (H := H) dA
 obtain ⟨ax, aH, az, rfl⟩ := a6.form
 obtain ⟨ay, aI, aA, rfl⟩ := aP.form
 refine l_' (.agg #[.bool ((gt D e).1), .slice ax aH az, .slice ay aI aA]) (aL_ 108 (elp O 3 e.toNat 0) H) (dm _ _ _ (by kernel_rfl)) ?_
 refine rk_ ah [.bool false, .slice none 0 0, .slice none 0 0] fun aV e7 ab am cu => ?_
 have eU := (aP.ext ab)
 have eV := (a6.ext ab)
 obtain ⟨aU, el, Y, cv⟩ := ra_ 108 0 ab.wf cu [.bool ((gt D e).1), .slice ax aH az, .slice ay aI aA] [.bool ((gt D e).1), .slice ax aH az, .slice ay aI aA]
 refine ek_ el (Za (dS _ _ (sq_ fun dW => sq_ fun dX => g_' (qs_ 1 (lr_ 92 1 (.slice ax aH az) cv ?_)))))
 have bF := (eV.fr Y (am.djn a6.lt))
 refine bF.sq.ln_ 92 (qs_ 1 (Za (dX _ _ ?_)))
 obtain ⟨bw, dC, eK⟩ := bs_ eE
 refine ZC (fun α aq => ∃ (al : Fp), Has α [(0, pt_ ae 0), (1, i_ e), (5, pt_ aV 0)] /\ FrS aK aU aq /\ Nd Zc 3 aq O bw al [(e.toNat, true), (e.toNat, false)] /\ Inn aK aU al) (fun _ dY => ?_) (fun α aq hM => ?_)
 ·refine Zl ?_
  obtain ⟨ck, dq⟩ := Zt.1 dC
  have eW := ((br.ext ab).fr Y (am.djn br.lt))
  refine ZI (fun n α bf => ∃ (af : List (Bool × List (Int × Int × Int) × List (Int × Int × Int))), ∃ (U : Int), ∃ (aL : Fp), ZO (fun zz_ => Zah D e zz_.1 zz_.2) n (af, U) = some bw /\ Has α [(0, pt_ ae 0), (1, i_ e), (5, pt_ aV 0), (26, .slice ax aH az), (27, i_ (((gt D e).2.1).length : Int)), (28, i_ U)] /\ FrS aK aU bf /\ Nd Zc 3 bf O af aL [(e.toNat, true), (e.toNat, false)] /\ Inn aK aU aL) ck ⟨D, 0, aK, dq, ha_, (fr_ Y.wf), eW, ir_⟩ ?_
  rintro ck α bf ⟨af, U, aL, df, b8, aj, a8, aT⟩ e9 dZ
  obtain ⟨eb, e1, rfl, aR, b_⟩ := Zx df
  obtain ⟨β, rfl⟩ := Zk b8
  clear b8
  replace aR : Zah D e af U = some e1 := aR
  unfold Zah at aR
  refine sn_ (sq_ fun d0 => ?_)
  refine wc_ (U < (((gt D e).2.1).length : Int)) (fun aN => ?_) fun aN => ?_
  ·have em := Ze aN aR
   refine Zg (d0 _ _ (sq_ fun dG => Zl (sq_ fun dH => g_' ?_)))
   obtain ⟨bV, eo⟩ := Zb em
   have cw := (bF.fr aj bh)
   refine cw.sq.ix_ 92 bV aN (le_ 98 0 (.agg #[i_ ((gt ((gt D e).2.1) U).1), .int .u64 ((gt ((gt D e).2.1) U).2.1), i_ ((gt ((gt D e).2.1) U).2.2)]) cw.sq bV aN ?_)
   refine rk_ aj.wf [i_ 0, .int .u64 0, i_ 0] fun bI e2 aB aY cn => ?_
   obtain ⟨ao, ec, ar, bx⟩ := ra_ 98 0 aB.wf cn [i_ ((gt ((gt D e).2.1) U).1), .int .u64 ((gt ((gt D e).2.1) U).2.1), i_ ((gt ((gt D e).2.1) U).2.2)] [i_ ((gt ((gt D e).2.1) U).1), .int .u64 ((gt ((gt D e).2.1) U).2.1), i_ ((gt ((gt D e).2.1) U).2.2)]
   refine ek_ ec (Za (dH _ _ ?_))
   refine ZR [0, 1, 2, 3, 4, 5, 6, 7, 8, 9, 10, 11, 12, 13, 14, 15, 16, 17, 18, 19] (by kernel_rfl) ?_
   refine es_ 3 ?_
   have bK := (aw.dj bj Z.ltF)
   have d3 := (t_ (t_ ab.n Y.n) aj.n)
   have cM := (aY.djn (Z.ltF.le d3))
   have bA := (((((Z.ext ab).frS Y (am.djn Z.ltF)).frS aj bK).ext aB).frS ar cM)
   refine Zcz (O) (x := aL_ 102 (pt_ ae 0) ao) (by kernel_rfl) (bA.l_) ?_
   refine es_ 1 ?_
   refine Zcz (i_ ((gt ((gt D e).2.1) U).1)) (x := aL_ 3 (pt_ bI 0) ao) (by kernel_rfl) (bx.l_) ?_
   refine es_ 3 (mr_ 102 0 (O) bA (es_ 1 (mr_ 3 0 (i_ ((gt ((gt D e).2.1) U).1)) bx ?_)))
   obtain ⟨ac, ep⟩ := Zb eo
   have a_ := ((a8.ext aB).fr ar (aY.djn a8.lt))
   refine a_.mx_ 102 ac.1 ac.2 (m_' (elp O 3 ((gt ((gt D e).2.1) U).1).toNat 2) (Zy Tryz.prog 108 (elp O 3 ((gt ((gt D e).2.1) U).1).toNat 0) 2) (Nd.fldq (d := 2) a_ ac.1 ac.2 (by kernel_rfl)) ?_)
   obtain ⟨bW, eq⟩ := Zb ep
   obtain ⟨fy, eL, di, dg⟩ := Nd.at a_ ac.1 ac.2
   have ce : KdS Zc 3 ao eL ((gt af ((gt ((gt D e).2.1) U).1)).2.2) aL O 3 ((gt ((gt D e).2.1) U).1).toNat 2 := dg true (by have := bW; have := ac.1; have := ag.1; simp; omega)
   obtain ⟨cI, d4, cK, rfl⟩ := ce.sq.form
   refine m_' (.slice cI d4 cK) (aL_ 92 (elp O 3 ((gt ((gt D e).2.1) U).1).toNat 2) ao) (di _ _ _ _ (by kernel_rfl)) (es_ 1 ?_)
   obtain ⟨c6, ff, a1, dr, bL, du, dv⟩ := Nd.borrow true a_ ac.1 ac.2 (by have := bW; have := ac.1; have := ag.1; simp; omega) ce rfl
   have cC := Inn.sub' (H := ao) du
   have bb := Inn.sub' (H := ao) dv
   have a1 : Nd Zc 3 ao O af c6 [(((gt ((gt D e).2.1) U).1).toNat, true), (e.toNat, true), (e.toNat, false)] := a1
   obtain ⟨cE, dD, es⟩ := bs_ eq
   refine dk_ (ZeT ar.wf dr dD) ?_
   rintro fw bG ⟨_, fg, rfl, aC, cg, cc⟩
   obtain ⟨e_, fu, fb, rfl⟩ := cg.form
   have d5 := (t_ ab.n Y.n)
   have cN := (aT.dj bK (Z.ltF.le d5))
   have d6 := (t_ (t_ (t_ (t_ ab.n Y.n) aj.n) aB.n) ar.n)
   have cO := (bb.dj cN (Z.ltF.le d6))
   have eM := (bA.frS aC cO)
   have cP := (aY.djn a8.lt)
   have cQ := (bb.dj (Dj.symm cP) (cn.ltF.le ar.n))
   have eN := (bx.frS aC cQ)
   refine ⟨ZaP (y := aL_ 3 (pt_ bI 0) bG) (by kernel_rfl) (eN.l_) (ZaP (y := aL_ 102 (pt_ ae 0) bG) (by kernel_rfl) (eM.l_) (ZL)), ?_⟩
   have bB := (a1.fr aC (Dj.symm bL))
   refine bB.mx_ 102 ac.1 ac.2 (m_' (elp O 3 ((gt ((gt D e).2.1) U).1).toNat 2) (Zy Tryz.prog 108 (elp O 3 ((gt ((gt D e).2.1) U).1).toNat 0) 2) (Nd.fldq (d := 2) bB ac.1 ac.2 (by kernel_rfl)) ?_)
   have cR := (cc.dj (Dj.symm bL) a1.lt)
   obtain ⟨cG, bT, ed, c4, bp, dc⟩ := Nd.close (P := Tryz.prog) (t := 92) true aC.wf bB cg (Dj.symm cR) ac.1 ac.2 (by kernel_rfl) (by kernel_rfl) (by kernel_rfl)
   have bp : Nd Zc 3 cG O (af.set ((gt ((gt D e).2.1) U).1).toNat ((gt af ((gt ((gt D e).2.1) U).1)).1, (gt af ((gt ((gt D e).2.1) U).1)).2.1, cE)) bT [(e.toNat, true), (e.toNat, false)] := bp
   have eX := dc.grow3 (Inn.trans ir_ (Nat.le_refl _) cC) (Inn.trans (Inn.trans ir_ (Nat.le_refl _) bb) (Nat.le_refl _) cc) aC.n
   refine fk_ ed (Zap (by kernel_rfl) (Zap (by kernel_rfl) (ZL))) ?_
   refine ZK ?_
   refine dG _ _ (g_' ?_)
   obtain ⟨c8, et⟩ := Zb es
   refine w_' ((U + 1)) (Zo (by have := c8; omega)) (qs_ 1 (Za ?_))
   have bt := (t_ (t_ aj.n aB.n) ar.n)
   obtain rfl := oi_ et
   exact dZ eb _ _ lt_ ⟨(af.set ((gt ((gt D e).2.1) U).1).toNat ((gt af ((gt ((gt D e).2.1) U).1)).1, (gt af ((gt ((gt D e).2.1) U).1)).2.1, cE)), (U + 1), bT, b_, ha_, (fs_ Y.wf (fs_ Y.wf (fs_ Y.wf ((fs_ Y.wf (fr_ Y.wf) aj ir_).extR aB) ar (aY.fresh aj.n)) aC (Inn.trans (Inn.trans ir_ (Nat.le_refl _) aT) bt bb)) c4 (Inn.trans (Inn.trans ir_ (Nat.le_refl _) aT) bt cC)), bp, (Inn.trans (Inn.trans ir_ (Nat.le_refl _) aT) bt eX)⟩
  have eu := Zi aN aR
  refine ZH (Zj (Zj (ZT ?_)))
  obtain rfl := oi_ eu
  obtain rfl := Zv b_
  exact dY _ _ ⟨aL, ha_, (fs_ Y.wf (fr_ Y.wf) aj ir_), a8, (Inn.trans ir_ (Nat.le_refl _) aT)⟩
 obtain ⟨al, b7, aa, d2, ak⟩ := hM
 obtain ⟨β, rfl⟩ := Zk b7
 clear b7
 refine dW _ _ (sq_ fun dL => sq_ fun dM => g_' (qs_ 1 ?_))
 have bM := (am.djn br.lt)
 have cx := (cv.frS aa (Dj.symm bM))
 refine lr_ 92 2 (.slice ay aI aA) cx ?_
 have bC := ((eU.fr Y (am.djn aP.lt)).fr aa bi)
 refine bC.sq.ln_ 92 (qs_ 1 (Za (dM _ _ ?_)))
 obtain ⟨cm, dB, ev⟩ := bs_ eK
 refine ZC (fun α bd => ∃ (aW : Fp), Has α [(0, pt_ ae 0), (1, i_ e), (5, pt_ aV 0)] /\ FrS al aq bd /\ Nd Zc 3 bd O cm aW [(e.toNat, true), (e.toNat, false)] /\ Inn al aq aW) (fun _ dN => ?_) (fun α bd hM => ?_)
 ·refine Zl ?_
  obtain ⟨ci, dp⟩ := Zt.1 dB
  refine ZI (fun n α be => ∃ (o2 : List (Bool × List (Int × Int × Int) × List (Int × Int × Int))), ∃ (V : Int), ∃ (aJ : Fp), ZO (fun zz_ => Zaf D e zz_.1 zz_.2) n (o2, V) = some cm /\ Has α [(0, pt_ ae 0), (1, i_ e), (5, pt_ aV 0), (53, .slice ay aI aA), (54, i_ (((gt D e).2.2).length : Int)), (55, i_ V)] /\ FrS al aq be /\ Nd Zc 3 be O o2 aJ [(e.toNat, true), (e.toNat, false)] /\ Inn al aq aJ) ci ⟨bw, 0, al, dp, ha_, (fr_ aa.wf), d2, ir_⟩ ?_
  rintro ci α be ⟨o2, V, aJ, de, b6, ai, a7, aS⟩ e8 dO
  obtain ⟨d7, e0, rfl, aQ, b9⟩ := Zx de
  obtain ⟨β, rfl⟩ := Zk b6
  clear b6
  replace aQ : Zaf D e o2 V = some e0 := aQ
  unfold Zaf at aQ
  refine sn_ (sq_ fun dP => ?_)
  refine wc_ (V < (((gt D e).2.2).length : Int)) (fun aO => ?_) fun aO => ?_
  ·have ew := Ze aO aQ
   refine Zg (dP _ _ (sq_ fun dQ => Zl (sq_ fun dR => g_' ?_)))
   obtain ⟨bX, ex⟩ := Zb ew
   have cj := (t_ ab.n Y.n)
   have cS := (ak.dj bi (aP.lt.le cj))
   have cy := (bC.fr ai cS)
   refine cy.sq.ix_ 92 bX aO (le_ 98 0 (.agg #[i_ ((gt ((gt D e).2.2) V).1), .int .u64 ((gt ((gt D e).2.2) V).2.1), i_ ((gt ((gt D e).2.2) V).2.2)]) cy.sq bX aO ?_)
   refine rk_ ai.wf [i_ 0, .int .u64 0, i_ 0] fun bJ e3 aE aZ cp => ?_
   obtain ⟨ap, ee, au, bz⟩ := ra_ 98 0 aE.wf cp [i_ ((gt ((gt D e).2.2) V).1), .int .u64 ((gt ((gt D e).2.2) V).2.1), i_ ((gt ((gt D e).2.2) V).2.2)] [i_ ((gt ((gt D e).2.2) V).1), .int .u64 ((gt ((gt D e).2.2) V).2.1), i_ ((gt ((gt D e).2.2) V).2.2)]
   refine ek_ ee (Za (dR _ _ ?_))
   refine ZR [0, 1, 2, 3, 4, 5, 6, 7, 8, 9, 10, 11, 12, 13, 14, 15, 16, 17, 18, 19] (by kernel_rfl) ?_
   refine es_ 3 ?_
   have bN := (aw.dj bj Z.ltF)
   have bO := (ak.dj bN (Z.ltF.le cj))
   have d8 := (t_ (t_ (t_ ab.n Y.n) aa.n) ai.n)
   have cT := (aZ.djn (Z.ltF.le d8))
   have bD := ((((((Z.ext ab).frS Y (am.djn Z.ltF)).frS aa bN).frS ai bO).ext aE).frS au cT)
   refine Zcz (O) (x := aL_ 102 (pt_ ae 0) ap) (by kernel_rfl) (bD.l_) ?_
   refine es_ 1 ?_
   refine Zcz (i_ ((gt ((gt D e).2.2) V).1)) (x := aL_ 3 (pt_ bJ 0) ap) (by kernel_rfl) (bz.l_) ?_
   refine es_ 3 (mr_ 102 0 (O) bD (es_ 1 (mr_ 3 0 (i_ ((gt ((gt D e).2.2) V).1)) bz ?_)))
   obtain ⟨ad, ey⟩ := Zb ex
   have ba := ((a7.ext aE).fr au (aZ.djn a7.lt))
   refine ba.mx_ 102 ad.1 ad.2 (m_' (elp O 3 ((gt ((gt D e).2.2) V).1).toNat 1) (Zy Tryz.prog 108 (elp O 3 ((gt ((gt D e).2.2) V).1).toNat 0) 1) (Nd.fldq (d := 1) ba ad.1 ad.2 (by kernel_rfl)) ?_)
   obtain ⟨bY, eA⟩ := Zb ey
   obtain ⟨eO, fz, dk, dh⟩ := Nd.at ba ad.1 ad.2
   have cf : KdS Zc 3 ap eO ((gt o2 ((gt ((gt D e).2.2) V).1)).2.1) aJ O 3 ((gt ((gt D e).2.2) V).1).toNat 1 := dh false (by have := bY; have := ad.1; have := ag.1; simp; omega)
   obtain ⟨cJ, d9, cL, rfl⟩ := cf.sq.form
   refine m_' (.slice cJ d9 cL) (aL_ 92 (elp O 3 ((gt ((gt D e).2.2) V).1).toNat 1) ap) (dk _ _ _ _ (by kernel_rfl)) (es_ 1 ?_)
   obtain ⟨c7, fh, a2, dt, bP, dw, dx⟩ := Nd.borrow false ba ad.1 ad.2 (by have := bY; have := ad.1; have := ag.1; simp; omega) cf rfl
   have cD := Inn.sub' (H := ap) dw
   have bc := Inn.sub' (H := ap) dx
   have a2 : Nd Zc 3 ap O o2 c7 [(((gt ((gt D e).2.2) V).1).toNat, false), (e.toNat, true), (e.toNat, false)] := a2
   obtain ⟨cF, dF, eC⟩ := bs_ eA
   refine dk_ (ZeT au.wf dt dF) ?_
   rintro fx bH ⟨_, fj, rfl, aF, ch, cd⟩
   obtain ⟨fa, fv, fc, rfl⟩ := ch.form
   have d_ := (t_ (t_ ab.n Y.n) aa.n)
   have cU := (aS.dj bO (Z.ltF.le d_))
   have ea := (t_ (t_ (t_ (t_ (t_ ab.n Y.n) aa.n) ai.n) aE.n) au.n)
   have cV := (bc.dj cU (Z.ltF.le ea))
   have eP := (bD.frS aF cV)
   have cW := (aZ.djn a7.lt)
   have cX := (bc.dj (Dj.symm cW) (cp.ltF.le au.n))
   have eQ := (bz.frS aF cX)
   refine ⟨ZaP (y := aL_ 3 (pt_ bJ 0) bH) (by kernel_rfl) (eQ.l_) (ZaP (y := aL_ 102 (pt_ ae 0) bH) (by kernel_rfl) (eP.l_) (ZL)), ?_⟩
   have bE := (a2.fr aF (Dj.symm bP))
   refine bE.mx_ 102 ad.1 ad.2 (m_' (elp O 3 ((gt ((gt D e).2.2) V).1).toNat 1) (Zy Tryz.prog 108 (elp O 3 ((gt ((gt D e).2.2) V).1).toNat 0) 1) (Nd.fldq (d := 1) bE ad.1 ad.2 (by kernel_rfl)) ?_)
   have cY := (cd.dj (Dj.symm bP) a2.lt)
   obtain ⟨cH, bU, ef, c5, bq, dd⟩ := Nd.close (P := Tryz.prog) (t := 92) false aF.wf bE ch (Dj.symm cY) ad.1 ad.2 (by kernel_rfl) (by kernel_rfl) (by kernel_rfl)
   have bq : Nd Zc 3 cH O (o2.set ((gt ((gt D e).2.2) V).1).toNat ((gt o2 ((gt ((gt D e).2.2) V).1)).1, cF, (gt o2 ((gt ((gt D e).2.2) V).1)).2.2)) bU [(e.toNat, true), (e.toNat, false)] := bq
   have eY := dd.grow3 (Inn.trans ir_ (Nat.le_refl _) cD) (Inn.trans (Inn.trans ir_ (Nat.le_refl _) bc) (Nat.le_refl _) cd) aF.n
   refine fk_ ef (Zap (by kernel_rfl) (Zap (by kernel_rfl) (ZL))) ?_
   refine ZK ?_
   refine dQ _ _ (g_' ?_)
   obtain ⟨c9, eD⟩ := Zb eC
   refine w_' ((V + 1)) (Zo (by have := c9; omega)) (qs_ 1 (Za ?_))
   have bu := (t_ (t_ ai.n aE.n) au.n)
   obtain rfl := oi_ eD
   exact dO d7 _ _ lt_ ⟨(o2.set ((gt ((gt D e).2.2) V).1).toNat ((gt o2 ((gt ((gt D e).2.2) V).1)).1, cF, (gt o2 ((gt ((gt D e).2.2) V).1)).2.2)), (V + 1), bU, b9, ha_, (fs_ aa.wf (fs_ aa.wf (fs_ aa.wf ((fs_ aa.wf (fr_ aa.wf) ai ir_).extR aE) au (aZ.fresh ai.n)) aF (Inn.trans (Inn.trans ir_ (Nat.le_refl _) aS) bu bc)) c5 (Inn.trans (Inn.trans ir_ (Nat.le_refl _) aS) bu cD)), bq, (Inn.trans (Inn.trans ir_ (Nat.le_refl _) aS) bu eY)⟩
  have eF := Zi aO aQ
  refine ZH (Zj (Zj (ZT ?_)))
  obtain rfl := oi_ eF
  obtain rfl := Zv b9
  exact dN _ _ ⟨aJ, ha_, (fs_ aa.wf (fr_ aa.wf) ai ir_), a7, (Inn.trans ir_ (Nat.le_refl _) aS)⟩
 obtain ⟨aW, b5, aD, d1, bs⟩ := hM
 obtain ⟨β, rfl⟩ := Zk b5
 clear b5
 refine dL _ _ (sq_ fun dT => ?_)
 refine ZR [0, 1, 2, 3, 4, 5, 6, 7, 8, 9, 10, 11, 12, 13, 14] (by kernel_rfl) ?_
 refine es_ 3 ?_
 have bQ := (aw.dj bj Z.ltF)
 have aG := (t_ ab.n Y.n)
 have bR := (ak.dj bQ (Z.ltF.le aG))
 have cz := ((((Z.ext ab).frS Y (am.djn Z.ltF)).frS aa bQ).frS aD bR)
 refine mr_ 3 2 (i_ an) cz (es_ 1 ?_)
 have cZ := (ak.dj (Dj.symm bM) (cu.ltF.le Y.n))
 have cA := (cx.frS aD cZ)
 refine mr_ 92 1 (.slice ax aH az) cA ?_
 have c0 := (ak.dj bh (a6.lt.le aG))
 have eR := ((bF.fr aa bh).fr aD c0)
 refine eR.sq.mn_ 92 (es_ 1 (mr_ 92 2 (.slice ay aI aA) cA ?_))
 have c3 := (ak.dj bi (aP.lt.le aG))
 have eS := (bC.fr aD c3)
 refine eS.sq.mn_ 92 ?_
 obtain ⟨c_, eG⟩ := Zb ev
 refine d_w (((((gt D e).2.1).length : Int) + (((gt D e).2.2).length : Int))) (k := .i64) (x := ((((gt D e).2.1).length : Int) + (((gt D e).2.2).length : Int))) (by kernel_rfl) (Zo c_) ?_
 obtain ⟨da, eH⟩ := Zb eG
 refine d_w ((an - ((((gt D e).2.1).length : Int) + (((gt D e).2.2).length : Int)))) (k := .i64) (x := (an - ((((gt D e).2.1).length : Int) + (((gt D e).2.2).length : Int)))) (by kernel_rfl) (Zo da) ?_
 refine es_ 2 ?_
 obtain ⟨e4, eh, bk, cq⟩ := rb_ 3 2 aD.wf cz (i_ (an - ((((gt D e).2.1).length : Int) + (((gt D e).2.2).length : Int)))) [O, i_ av, i_ (an - ((((gt D e).2.1).length : Int) + (((gt D e).2.2).length : Int)))]
 refine fk_ eh (ZL) ?_
 refine ZK ?_
 refine dT _ _ (sq_ fun dU => g_' (qs_ 3 (lr_ 3 1 (i_ av) cq ?_)))
 obtain ⟨db, eI⟩ := Zb eH
 refine w_' ((av - 1)) (Zo db) (qs_ 2 ?_)
 obtain ⟨e5, ej, bl, cr⟩ := rb_ 3 1 bk.wf cq (i_ (av - 1)) [O, i_ (av - 1), i_ (an - ((((gt D e).2.1).length : Int) + (((gt D e).2.2).length : Int)))]
 refine ek_ ej (Za (dU _ _ (sq_ fun dV => g_' (qs_ 3 (lr_ 102 0 (O) cr (qs_ 2 ?_))))))
 obtain ⟨bZ, eJ⟩ := Zb eI
 have bv := (t_ (t_ ab.n Y.n) aa.n)
 have bg := (bs.dj bR (Z.ltF.le bv))
 have cB := ((d1.fr bk (Dj.symm bg)).fr bl (Dj.symm bg))
 refine cB.ix_ 102 ag.1 bZ ?_
 obtain ⟨e6, ek, bS, dn⟩ := Nd.clearAt (P := Tryz.prog) (t := 108) (v := .agg #[.bool true, .slice none 0 0, .slice none 0 0]) (b0 := true) (hol' := []) bl.wf cB (by decide) ag.1 bZ (by kernel_rfl) (by kernel_rfl) (by simp)
 refine ek_ ek (Za (dV _ _ (sn_ ?_)))
 refine Zh ?_
 refine br_ [.nilIface] ?_
 have eT := (cr.frS bS bg)
 obtain rfl := oi_ eJ
 exact ⟨(.nilIface), [], aW, rfl, (fs_ ah (fs_ ah (fs_ ah (fs_ ah (fs_ ah (fs_ ah ((fr_ ah).extR ab) Y (am.fresh (Nat.le_refl _))) aa (Inn.trans (Inn.right ir_) (Nat.le_refl _) aw)) aD (Inn.trans (Inn.trans (Inn.right ir_) (Nat.le_refl _) aw) aG ak)) bk Inn.left) bl Inn.left) bS (Inn.trans (Inn.trans (Inn.trans (Inn.right ir_) (Nat.le_refl _) aw) aG ak) bv bs)), Ev.nil, dn, eT, in_, (Inn.trans (Inn.trans (Inn.trans ir_ (Nat.le_refl _) aw) aG ak) bv bs), dn_⟩
theorem Zed {H : AH} {aL : Value} {bW : Fp} {an : Value} {bX : Fp} {bb : List (Bool)} {Arcs : List (Int × Int × Int × Int)} {ai : Int} {r : List (Bool) × List (Int × Int × Int × Int)}
    (aj : WF H) (bi : Sq Zaz 1 H aL bb bW) (aK : Sq Zn 4 H an Arcs bX) (bp : ZaM bb Arcs ai = some r) :
    ACalls Tryz.prog 25 #[.agg #[aL, an], i_ ai] H fun v H' => ∃ (bC : Value) (aS : Fp) (bD : Value) (aT : Fp), v = .agg #[bC, bD] /\ FrS [] H H' /\ Ow Zaz 1 H' bC r.1 aS /\ Ow Zn 4 H' bD r.2 aT /\ Inn [] H aS /\ Inn [] H aT /\ Dj aS aT := by
 refine ab_ Tryz.func25 ?_
 unfold ZaM at bp
 refine sq_ fun ce => g_' ?_
 refine ZaK aj [aL, an] (Zu (bi.one1) (Zu (aK.one1) (Z1))) (by kernel_rfl) fun dq dd af du a8 => ?_
 refine rk_ af.wf [.slice none 0 0, .slice none 0 0] fun aF dh ac b7 aA => ?_
 refine Za (ce _ _ (sq_ fun ch => g_' ?_))
 refine rk_ ac.wf [.slice none 0 0, .slice none 0 0] fun ag di aa am ah => ?_
 refine Za (ch _ _ (sq_ fun ci => g_' (qs_ 1 (lr_ 31 0 (.slice none 0 0) ah (qs_ 1 ?_)))))
 have bG := ((a8.ext ac).ext aa)
 refine lr_ 31 0 (aL) bG ?_
 obtain ⟨b6, cU⟩ := Zb bp
 have c9 := (((bi.ext af).ext ac).ext aa)
 obtain ⟨dz, dk, bV, cE, Y, aW, ao⟩ := Ow.append (P := Tryz.prog) 1 aa.wf (Ow.nil (enc := Zaz) (sz := 1) (by decide)) c9 (fun _ _ => rfl) (at_ := #[31, 31]) rfl rfl (by kernel_rfl) (by kernel_rfl) (by decide) (by have := b6; first | omega | (simp only [List.length_cons, List.length_nil] at this ⊢; omega) | (simp at this ⊢; omega))
 obtain ⟨U, Z, V, rfl⟩ := aW.form
 refine ZaL (.slice U Z V) (by kernel_rfl) (cE) ?_
 refine qs_ 1 ?_
 have c_ := (ah.frS Y dn_)
 obtain ⟨dm, cF, O, bB⟩ := rb_ 31 0 Y.wf c_ (.slice U Z V) [.slice U Z V, .slice none 0 0]
 refine ek_ cF (Za (ci _ _ (sq_ fun cj => g_' (qs_ 1 (lr_ 31 0 (.slice U Z V) bB (qs_ 1 ?_))))))
 obtain ⟨aJ, cV⟩ := Zb cU
 have aP := (ao.djn ah.ltF)
 have bH := (aW.fr O (Dj.symm aP))
 refine bH.sq.ix_ 31 aJ.1 aJ.2 ?_
 obtain ⟨aB, cG, D, b9⟩ := Ow.store (P := Tryz.prog) (t := 4) (off := 0) O.wf bH aJ.1 aJ.2 (.bool false) [.bool false] (by kernel_rfl) (by kernel_rfl) rfl false (Nat.le_of_ble_eq_true rfl) (by kernel_rfl)
 refine ek_ cG (Za (cj _ _ (sq_ fun ck => sq_ fun cm => g_' (qs_ 1 ?_))))
 have bR := (am.djn (a8.ltF.le ac.n))
 have cz := (t_ ac.n aa.n)
 have bS := (ao.djn (a8.ltF.le cz))
 have da := (((bG.frS Y dn_).frS O bR).frS D bS)
 refine lr_ 32 1 (an) da ?_
 have a2 := (t_ af.n ac.n)
 have bf := (am.djn (aK.lt.le a2))
 have a6 := (t_ (t_ af.n ac.n) aa.n)
 have bT := (ao.djn (aK.lt.le a6))
 have bI := ((((((aK.ext af).ext ac).ext aa).fr Y dn_).fr O bf).fr D bT)
 refine bI.ln_ 32 (qs_ 1 (Za (cm _ _ ?_)))
 obtain ⟨bz, ca, cW⟩ := bs_ cV
 refine ZC (fun α aC => ∃ (a_ : Value) (aI : Fp), Has α [(4, pt_ aF 0), (5, pt_ ag 0)] /\ FrS [ag] aB aC /\ Ow Zn 4 aC a_ bz aI /\ Row aC ag [.slice U Z V, a_] /\ Inn [] aB aI) (fun _ cn => ?_) (fun α aC hM => ?_)
 ·refine Zl ?_
  obtain ⟨bw, b_⟩ := Zt.1 ca
  have cX := (bB.frS D aP)
  refine ZI (fun n α aD => ∃ (e : Int), ∃ (aq : List (Int × Int × Int × Int)), ∃ (ba : Value), ∃ (av : Fp), ZO (fun zz_ => ZaQ Arcs ai zz_.1 zz_.2) n (e, aq) = some bz /\ Has α [(1, i_ ai), (4, pt_ aF 0), (5, pt_ ag 0), (19, an), (20, i_ (Arcs.length : Int)), (21, i_ e)] /\ FrS [ag] aB aD /\ Ow Zn 4 aD ba aq av /\ Row aD ag [.slice U Z V, ba] /\ Inn [] aB av) bw ⟨0, [], (.slice none 0 0), [], b_, ha_, (fr_ D.wf), (Ow.nil (by decide)), cX, in_⟩ ?_
  rintro bw α aD ⟨e, aq, ba, av, b8, bm, ab, ap, aZ, ay⟩ dn br
  obtain ⟨bv, db, rfl, ax, aX⟩ := Zx b8
  obtain ⟨β, rfl⟩ := Zk bm
  clear bm
  replace ax : ZaQ Arcs ai e aq = some db := ax
  unfold ZaQ at ax
  obtain ⟨aN, a1, aO, rfl⟩ := ap.form
  refine sn_ (sq_ fun cc => ?_)
  refine wc_ (e < (Arcs.length : Int)) (fun aw => ?_) fun aw => ?_
  ·have cH := Ze aw ax
   refine Zg (cc _ _ (sq_ fun bs => Zl (sq_ fun cd => g_' ?_)))
   obtain ⟨bh, cI⟩ := Zb cH
   have bE := (bI.fr ab bf)
   refine bE.ix_ 32 bh aw (le_ 75 0 (.agg #[i_ ((gt Arcs e).1), i_ ((gt Arcs e).2.1), .int .u64 ((gt Arcs e).2.2.1), i_ ((gt Arcs e).2.2.2)]) bE bh aw ?_)
   refine rk_ ab.wf [i_ 0, i_ 0, .int .u64 0, i_ 0] fun bL dc ad al cJ => ?_
   obtain ⟨bJ, cA, ae, a7⟩ := ra_ 75 0 ad.wf cJ [i_ ((gt Arcs e).1), i_ ((gt Arcs e).2.1), .int .u64 ((gt Arcs e).2.2.1), i_ ((gt Arcs e).2.2.2)] [i_ ((gt Arcs e).1), i_ ((gt Arcs e).2.1), .int .u64 ((gt Arcs e).2.2.1), i_ ((gt Arcs e).2.2.2)]
   refine ek_ cA (Za (cd _ _ (sq_ fun cf => ?_)))
   obtain ⟨bx, bq, bA⟩ := bs_ cI
   refine ZC (fun α bc => Has α [(1, i_ ai), (4, pt_ aF 0), (5, pt_ ag 0), (7, pt_ bL 0), (19, an), (20, i_ (Arcs.length : Int)), (21, i_ e), (34, .bool bx)] /\ bJ = bc) (fun _ bt => ?_) (fun α bc hM => ?_)
   ·refine g_' (qs_ 1 (lr_ 3 0 (i_ ((gt Arcs e).1)) a7 (qs_ 1 ?_)))
    refine s_bn (((gt Arcs e).1) = ai) (by kernel_rfl) (fun aU => ?_) (fun aU => ?_)
    ·have cK := Ze aU bq
     refine qs_ 6 (Za ?_)
     obtain rfl := oi_ cK
     exact bt _ _ ⟨ha_, rfl⟩
    have cL := Zi aU bq
    refine qs_ 2 (lr_ 3 1 (i_ ((gt Arcs e).2.1)) a7 (qs_ 3 (Za ?_)))
    obtain rfl := oi_ cL
    exact bt _ _ ⟨ha_, rfl⟩
   obtain ⟨bk, rfl⟩ := hM
   obtain ⟨β, rfl⟩ := Zk bk
   clear bk
   refine cf _ _ ?_
   refine wb_ (bx) (fun aV => ?_) fun aV => ?_
   ·have cM := Ze aV bA
    refine g_' (qs_ 1 ?_)
    have cp := (t_ (t_ (t_ Y.n O.n) D.n) ab.n)
    have bM := (al.djn (ah.ltF.le cp))
    have bF := ((aZ.ext ad).frS ae bM)
    refine lr_ 32 1 (.slice aN a1 aO) bF (lr_ 75 0 (.agg #[i_ ((gt Arcs e).1), i_ ((gt Arcs e).2.1), .int .u64 ((gt Arcs e).2.2.1), i_ ((gt Arcs e).2.2.2)]) a7 ?_)
    refine Zbo (enc := Zn) (sz := 4) ae.wf [((gt Arcs e).1, (gt Arcs e).2.1, (gt Arcs e).2.2.1, (gt Arcs e).2.2.2)] 1 (by decide) (fun _ _ => rfl) (fun _ _ => rfl) rfl (by kernel_rfl) fun dx dt de ak dv bn => ?_
    obtain ⟨dp, dw, dr, rfl⟩ := bn.form
    have cY := (((ap.ext ad).fr ae (al.djn ap.lt)).ext ak)
    obtain ⟨bY, cN⟩ := Zb cM
    obtain ⟨dy, df, bU, cB, aQ, bo, bj⟩ := Ow.append (P := Tryz.prog) 32 ak.wf cY bn.sq (fun _ _ => rfl) (at_ := #[32, 32]) rfl rfl (by kernel_rfl) (by kernel_rfl) (by decide) (by have := bY; first | omega | (simp only [List.length_cons, List.length_nil] at this ⊢; omega) | (simp at this ⊢; omega))
    obtain ⟨aE, aM, aG, rfl⟩ := bo.form
    refine ZaL (.slice aE aM aG) (by kernel_rfl) (cB) ?_
    refine qs_ 1 ?_
    have cq := (t_ (t_ Y.n O.n) D.n)
    have bd := (ay.djn (ah.ltF.le cq))
    have cZ := ((bF.ext ak).frS aQ bd)
    obtain ⟨dg, cC, bg, cO⟩ := rb_ 32 1 aQ.wf cZ (.slice aE aM aG) [.slice U Z V, .slice aE aM aG]
    refine ek_ cC (Za (bs _ _ (g_' ?_)))
    obtain ⟨bZ, cP⟩ := Zb cN
    refine w_' ((e + 1)) (Zo (by have := bZ; omega)) (qs_ 1 (Za ?_))
    have cr := (t_ (t_ (t_ (t_ (t_ (t_ Y.n O.n) D.n) ab.n) ad.n) ae.n) ak.n)
    have bN := (bj.dj bd (ah.ltF.le cr))
    have c0 := (bo.fr bg (Dj.symm bN))
    have cu := (t_ (t_ (t_ ab.n ad.n) ae.n) ak.n)
    obtain rfl := oi_ cP
    exact br bv _ _ lt_ ⟨(e + 1), (aq ++ [((gt Arcs e).1, (gt Arcs e).2.1, (gt Arcs e).2.2.1, (gt Arcs e).2.2.2)]), (.slice aE aM aG), bU, aX, ha_, (fs_ D.wf (fs_ D.wf ((fs_ D.wf ((fs_ D.wf (fr_ D.wf) ab ir_).extR ad) ae (al.fresh ab.n)).extR ak) aQ (ay.fresh (Nat.le_refl _))) bg ir_), c0, cO, (Inn.trans (ay.fresh (Nat.le_refl _)) cu bj)⟩
   have cQ := ZM aV bA
   refine Zg (bs _ _ (g_' ?_))
   obtain ⟨b5, cR⟩ := Zb cQ
   refine w_' ((e + 1)) (Zo (by have := b5; omega)) (qs_ 1 (Za ?_))
   have c3 := ((ap.ext ad).fr ae (al.djn ap.lt))
   have cv := (t_ (t_ (t_ Y.n O.n) D.n) ab.n)
   have bO := (al.djn (ah.ltF.le cv))
   have c4 := ((aZ.ext ad).frS ae bO)
   obtain rfl := oi_ cR
   exact br bv _ _ lt_ ⟨(e + 1), aq, (.slice aN a1 aO), av, aX, ha_, (fs_ D.wf ((fs_ D.wf (fr_ D.wf) ab ir_).extR ad) ae (al.fresh ab.n)), c3, c4, (ay.fresh (Nat.le_refl _))⟩
  have cS := Zi aw ax
  refine ZH (Zj (Zj (ZT ?_)))
  obtain rfl := oi_ cS
  obtain rfl := Zv aX
  exact cn _ _ ⟨(.slice aN a1 aO), av, ha_, (fs_ D.wf (fr_ D.wf) ab ir_), ap, aZ, (ay.fresh (Nat.le_refl _))⟩
 obtain ⟨a_, aI, bl, aH, bu, co, aY⟩ := hM
 obtain ⟨β, rfl⟩ := Zk bl
 clear bl
 obtain ⟨ar, az, au, rfl⟩ := bu.form
 refine ck _ _ (sq_ fun cg => g_' (lr_ 34 0 (.agg #[.slice U Z V, .slice ar az au]) co ?_))
 have be := (ao.djn (aA.ltF.le aa.n))
 have c5 := (((((aA.ext aa).frS Y dn_).frS O (am.djn aA.ltF)).frS D be).frS aH (am.djn aA.ltF))
 have c6 := (b9.fr aH (Dj.symm aP))
 obtain ⟨bK, cD, aR, cT⟩ := ra_ 34 0 aH.wf c5 [.slice U Z V, .slice ar az au] [.slice U Z V, .slice ar az au]
 refine ek_ cD (Za (cg _ _ ?_))
 refine Zh ?_
 refine Zac (vs := [.agg #[.slice U Z V, .slice ar az au]]) (ZQ (Eq.trans (b := aL_ 34 (pt_ aF 0) bK) (by kernel_rfl) (cT.l_)) (rfl)) ?_
 have c7 := (c6.fr aR (Dj.symm be))
 have cw := (t_ (t_ (t_ aa.n Y.n) O.n) D.n)
 have bP := (aY.djn (aA.ltF.le cw))
 have c8 := (bu.fr aR (Dj.symm bP))
 have cx := (t_ (t_ (t_ (t_ (t_ af.n ac.n) aa.n) Y.n) O.n) D.n)
 have cy := (t_ O.n D.n)
 have bQ := (aY.djn (aW.lt.le cy))
 obtain rfl := oi_ cW
 exact ⟨(.slice U Z V), bV, (.slice ar az au), aI, rfl, (fs_ aj (fs_ aj (fs_ aj (fs_ aj (fs_ aj ((((f0_ aj).extR af).extR ac).extR aa) Y in_) O (am.fresh a2)) D (ao.fresh a6)) aH (am.fresh a2)) aR (b7.fresh af.n)), c7, c8, (ao.fresh a6), (aY.fresh cx), (Dj.symm bQ)⟩
end Go.Vd

/-! (KSc7) -/

set_option maxRecDepth 100000
set_option maxHeartbeats 4000000
set_option linter.unusedVariables false
namespace Go.Vd
open Go.Proofs
attribute [local irreducible] Zp Zq aWp
theorem Zeu {H : AH} {bc : Value} {fX : Fp} {bz : Value} {fY : Fp} {aY : Int} {Arcs : List (Int × Int × Int)} {U : List (Int × Int × Int × Int × Int)} {r : (Unit) ⊕ (List (Bool × List (Int × Int × Int) × List (Int × Int × Int)) × Int × Int × List (Bool) × List (Int × Int × Int × Int))}
    (ax : WF H) (cv : Sq Zr 3 H bc Arcs fX) (bb : Sq Zbf 5 H bz U fY) (dD : Zb7 aY Arcs U = some r) :
    ACalls Tryz.prog 5 #[.agg #[i_ aY, bc], bz] H fun v H' => Sum.elim (fun (r : Unit) => v = .tuple #[.pointer none, .agg #[.slice none 0 0, .slice none 0 0], .bool false] /\ FrS [] H H') (fun (r : List (Bool × List (Int × Int × Int) × List (Int × Int × Int)) × Int × Int × List (Bool) × List (Int × Int × Int × Int)) => ∃ (eh : Value) (bv : Fp) (a1 : Nat) (ee : Value) (bt : Fp) (ef : Value) (f15 : Fp), v = .tuple #[pt_ a1 0, .agg #[ee, ef], .bool true] /\ FrS [] H H' /\ Nd Zc 3 H' eh r.1 bv [] /\ Row H' a1 [eh, i_ r.2.1, i_ r.2.2.1] /\ Ow Zaz 1 H' ee r.2.2.2.1 bt /\ Sq Zn 4 H' ef r.2.2.2.2 f15 /\ Inn [] H bv /\ Inn [] H [a1] /\ Inn [] H bt /\ Inn [] H f15 /\ Dj bv [a1] /\ Dj bv bt /\ Dj [a1] bt /\ Dj bv f15 /\ Dj [a1] f15 /\ Dj bt f15) r := by
 refine ab_ Tryz.func5 ?_
 unfold Zb7 at dD
 refine sq_ fun gl => g_' ?_
 refine ZaK ax [i_ aY, bc] (Zu (rfl) (Zu (cv.one1) (Z1))) (by kernel_rfl) fun ez iP ap jd d9 => ?_
 refine qs_ 1 ?_
 refine rk_ ap.wf [.slice none 0 0, .slice none 0 0] fun aZ ev ag dy az => ?_
 refine qs_ 1 (Za (gl _ _ (sq_ fun gr => sq_ fun gs => ?_)))
 obtain ⟨d7, f5, ea⟩ := bs_ dD
 refine ZC (fun α da => Has α [(1, bz), (2, pt_ ez 0), (5, pt_ aZ 0), (21, .bool d7)] /\ FrS [] ev da) (fun _ dF => ?_) (fun α da hM => ?_)
 ·refine g_' ?_
  have ie := (d9.ext ag)
  refine lr_ 24 0 (.agg #[i_ aY, bc]) ie ?_
  have ii := ((cv.ext ap).ext ag)
  obtain ⟨iH, gd, ec⟩ := bs_ f5
  refine ck_ (Zgp ag.wf ii gd) ?_
  rintro _ i1 ⟨rfl, ck⟩
  by_cases bN : iH = true
  ·have hH := Ze bN ec
   rw [bN]
   refine qs_ 3 ?_
   have iA := (((bb.ext ap).ext ag).fr ck dn_)
   refine iA.ln_ 25 (qs_ 2 (Za ?_))
   obtain rfl := oi_ hH
   exact dF _ _ ⟨ha_, (fs_ ag.wf (fr_ ag.wf) ck in_)⟩
  have hJ := Zi bN ec
  rw [nb bN]
  refine qs_ 6 (Za ?_)
  obtain rfl := oi_ hJ
  exact dF _ _ ⟨ha_, (fs_ ag.wf (fr_ ag.wf) ck in_)⟩
 obtain ⟨dC, af⟩ := hM
 obtain ⟨β, rfl⟩ := Zk dC
 clear dC
 refine gs _ _ ?_
 refine wb_ (d7) (fun cu => ?_) fun cu => ?_
 ·have hK := Ze cu ea
  refine sq_ fun gy => g_' (qs_ 2 ?_)
  have iC := (az.frS af dn_)
  obtain ⟨ex, hd, fT, hL⟩ := ra_ 34 0 af.wf iC [.slice none 0 0, .slice none 0 0] [.slice none 0 0, .slice none 0 0]
  refine ek_ hd (qs_ 1 (Za (gy _ _ ?_)))
  refine Zh (Zf ?_)
  refine Zac (vs := [.pointer none, .agg #[.slice none 0 0, .slice none 0 0], .bool false]) (Zdb (by kernel_rfl) (ZQ (Eq.trans (b := aL_ 34 (pt_ aZ 0) ex) (by kernel_rfl) (hL.l_)) (rt_ (rfl)))) ?_
  obtain rfl := oi_ hK
  exact (Zkr ⟨rfl, (fs_ ax (fs_ ax (((f0_ ax).extR ap).extR ag) af in_) fT (dy.fresh ap.n))⟩)
 have hN := ZM cu ea
 refine Zg (gr _ _ (sq_ fun gz => g_' ?_))
 have es := ((d9.ext ag).frS af dn_)
 refine lr_ 24 0 (.agg #[i_ aY, bc]) es ?_
 have et := (((cv.ext ap).ext ag).fr af dn_)
 obtain ⟨iI, ge, ed⟩ := bs_ hN
 rcases iI with jx | c_
 ·exact (Zkh (ZjN ed)).elim
 have hO := Zjd ed
 refine ck_ (Zgd af.wf et ge) ?_
 rintro _ i2 ⟨jq, bw, ay, rfl, aq, aN, ac, bP, bQ, ci⟩
 obtain ⟨aQ, aU, aR, rfl⟩ := aN.form
 refine qs_ 5 (Za (gz _ _ (sq_ fun gA => g_' ?_)))
 have iD := (es.frS aq dn_)
 refine lr_ 24 0 (.agg #[i_ aY, bc]) iD ?_
 have iE := (et.fr aq dn_)
 obtain ⟨bZ, gf, hP⟩ := bs_ hO
 refine ck_ (ZfN aq.wf iE gf) ?_
 rintro _ iK ⟨jk, cm, jl, cn, jm, ja, rfl, ab, bf, bE, cF, aS, bd, je, eA, i6, i7⟩
 obtain ⟨b6, cI, ca, rfl⟩ := bf.form
 obtain ⟨b7, cJ, cc, rfl⟩ := bE.form
 obtain ⟨db, dQ, dc, rfl⟩ := cF.form
 refine qs_ 3 ?_
 refine rk_ ab.wf [.slice none 0 0, .slice none 0 0] fun aF iL ae ao ak => ?_
 refine rk_ ae.wf [i_ 0, .slice none 0 0] fun i4 iM Y aL he => ?_
 have hQ := (ak.ext Y)
 have hR := ((bE.ext ae).ext Y)
 have hS := ((bf.ext ae).ext Y)
 obtain ⟨iN, g7, Z, hf⟩ := ra_ 34 0 Y.wf hQ [.slice b6 cI ca, .slice b7 cJ cc] [.slice b6 cI ca, .slice b7 cJ cc]
 refine ek_ g7 ?_
 have dd := (aL.djn ak.ltF)
 have hT := (he.frS Z (Dj.symm dd))
 have jr := (((cF.ext ae).ext Y).fr Z (ao.djn cF.lt))
 obtain ⟨aJ, g8, e, jj⟩ := ra_ 46 0 Z.wf hT [i_ bZ.2.2.1, .slice db dQ dc] [i_ bZ.2.2.1, .slice db dQ dc]
 refine ek_ g8 (Za (gA _ _ (sq_ fun gg => sq_ fun gh => g_' (qs_ 1 ?_))))
 have cK := (t_ (t_ (t_ (t_ ap.n ag.n) af.n) aq.n) ab.n)
 have de := (ao.djn (bb.lt.le cK))
 have dR := (t_ (t_ (t_ (t_ (t_ ap.n ag.n) af.n) aq.n) ab.n) ae.n)
 have eB := (aL.djn (bb.lt.le dR))
 have ej := (((((((((bb.ext ap).ext ag).fr af dn_).fr aq dn_).fr ab dn_).ext ae).ext Y).fr Z de).fr e eB)
 refine ej.ln_ 25 (qs_ 1 (Za (gh _ _ ?_)))
 obtain ⟨bh, f4, hg⟩ := bs_ hP
 refine ZC (fun α aO => ∃ (a7 : Fp) (cW : Value) (a8 : Fp) (cX : Value) (a_ : Fp), Has α [(5, pt_ aZ 0), (7, pt_ ay 0), (9, pt_ aF 0)] /\ FrS ([aF] ++ ([ay] ++ bw)) aJ aO /\ Nd Zc 3 aO (.slice aQ aU aR) bh.1 a7 [] /\ Row aO ay [.slice aQ aU aR, i_ bh.2.1, i_ bh.2.2.1] /\ Ow Zaz 1 aO cW bh.2.2.2.1 a8 /\ Sq Zn 4 aO cX bh.2.2.2.2 a_ /\ Row aO aF [cW, cX] /\ Inn bw aJ a7 /\ Inn cm aJ a8 /\ Inn cn aJ a_ /\ Dj a7 a8 /\ Dj a7 a_ /\ Dj a8 a_) (fun _ gi => ?_) (fun α aO hM => ?_)
 ·refine Zl ?_
  obtain ⟨dS, f3⟩ := Zt.1 f4
  have eF := (ao.djn (aN.lt.le ab.n))
  have dT := (t_ ab.n ae.n)
  have eG := (aL.djn (aN.lt.le dT))
  have hU := (((((aN.fr ab dn_).ext ae).ext Y).fr Z eF).fr e eG)
  have eH := (ao.djn (ac.ltF.le ab.n))
  have eI := (aL.djn (ac.ltF.le dT))
  have hV := (((((ac.frS ab dn_).ext ae).ext Y).frS Z eH).frS e eI)
  have eJ := (aL.djn (bf.lt.le ae.n))
  have hW := ((hS.fr Z (ao.djn bf.lt)).fr e eJ)
  have eK := (aL.djn (bE.lt.le ae.n))
  have hX := ((hR.fr Z (ao.djn bE.lt)).fr e eK)
  have hY := (hf.frS e dd)
  have eL := (aS.djn aN.lt)
  have eM := (bd.djn aN.lt)
  refine ZI (fun n α aP => ∃ (O : Int), ∃ (bW : List (Bool × List (Int × Int × Int) × List (Int × Int × Int))), ∃ (o2 : Int), ∃ (bX : Int), ∃ (bg : List (Bool)), ∃ (bT : List (Int × Int × Int × Int)), ∃ (aH : Fp), ∃ (cY : Value), ∃ (aK : Fp), ∃ (cZ : Value), ∃ (aI : Fp), ZO (fun zz_ => ZaF U zz_.1 zz_.2.1 zz_.2.2.1 zz_.2.2.2.1 zz_.2.2.2.2.1 zz_.2.2.2.2.2) n (O, bW, o2, bX, bg, bT) = some bh /\ Has α [(5, pt_ aZ 0), (7, pt_ ay 0), (9, pt_ aF 0), (33, bz), (34, i_ (U.length : Int)), (35, i_ O)] /\ FrS ([aF] ++ ([ay] ++ bw)) aJ aP /\ Nd Zc 3 aP (.slice aQ aU aR) bW aH [] /\ Row aP ay [.slice aQ aU aR, i_ o2, i_ bX] /\ Ow Zaz 1 aP cY bg aK /\ Sq Zn 4 aP cZ bT aI /\ Row aP aF [cY, cZ] /\ Inn bw aJ aH /\ Inn cm aJ aK /\ Inn cn aJ aI /\ Dj aH aK /\ Dj aH aI /\ Dj aK aI) dS ⟨0, c_.1, c_.2.1, c_.2.2, bZ.1, bZ.2.1, bw, (.slice b6 cI ca), cm, (.slice b7 cJ cc), cn, f3, ha_, (fr_ e.wf), hU, hV, hW, hX.sq, hY, ir_, ir_, ir_, (Dj.symm eL), (Dj.symm eM), eA⟩ ?_
  rintro dS α aP ⟨O, bW, o2, bX, bg, bT, aH, cY, aK, cZ, aI, f2, dA, aa, aT, cG, ar, aD, cH, av, aM, be, a2, bp, cg⟩ i3 cC
  obtain ⟨cL, iJ, rfl, bA, bO⟩ := Zx f2
  obtain ⟨β, rfl⟩ := Zk dA
  clear dA
  replace bA : ZaF U O bW o2 bX bg bT = some iJ := bA
  unfold ZaF at bA
  obtain ⟨aA, aE, aB, rfl⟩ := ar.form
  obtain ⟨bj, bG, bm, rfl⟩ := aD.form
  refine sn_ (sq_ fun gj => ?_)
  refine wc_ (O < (U.length : Int)) (fun bx => ?_) fun bx => ?_
  ·have hh := Ze bx bA
   refine Zg (gj _ _ (sq_ fun cD => Zl (sq_ fun gk => g_' ?_)))
   obtain ⟨dx, hj⟩ := Zb hh
   have dU := (t_ (t_ ap.n ag.n) af.n)
   have eN := (bP.djn (bb.lt.le dU))
   have eO := (bQ.djn (bb.lt.le dU))
   have ek := (ej.fr aa (Dj.app de (Dj.app eO eN)))
   refine ek.ix_ 25 dx bx (le_ 68 0 (.agg #[.int .u8 ((gt U O).1), i_ ((gt U O).2.1), i_ ((gt U O).2.2.1), .int .u64 ((gt U O).2.2.2.1), i_ ((gt U O).2.2.2.2)]) ek dx bx ?_)
   refine rk_ aa.wf [.int .u8 0, i_ 0, i_ 0, .int .u64 0, i_ 0] fun ey iO V aj cV => ?_
   obtain ⟨b5, g9, D, aW⟩ := ra_ 68 0 V.wf cV [.int .u8 ((gt U O).1), i_ ((gt U O).2.1), i_ ((gt U O).2.2.1), .int .u64 ((gt U O).2.2.2.1), i_ ((gt U O).2.2.2.2)] [.int .u8 ((gt U O).1), i_ ((gt U O).2.1), i_ ((gt U O).2.2.1), .int .u64 ((gt U O).2.2.2.1), i_ ((gt U O).2.2.2.2)]
   refine ek_ g9 (Za (gk _ _ (sq_ fun gm => sq_ fun gn => g_' (qs_ 1 (lr_ 5 0 (.int .u8 ((gt U O).1)) aW (qs_ 1 (Za (gn _ _ ?_))))))))
   obtain ⟨aV, dE, d8⟩ := bs_ hj
   refine ZC (fun α aX => ∃ (bu : Fp) (c0 : Value) (ba : Fp), Has α [(5, pt_ aZ 0), (7, pt_ ay 0), (9, pt_ aF 0), (12, pt_ ey 0), (33, bz), (34, i_ (U.length : Int)), (35, i_ O)] /\ FrS ([aF] ++ ([ay] ++ aH)) b5 aX /\ Nd Zc 3 aX (.slice aQ aU aR) aV.1 bu [] /\ Row aX ay [.slice aQ aU aR, i_ o2, i_ aV.2.1] /\ Sq Zn 4 aX c0 aV.2.2 ba /\ Row aX aF [.slice aA aE aB, c0] /\ Inn aH b5 bu /\ Inn aI b5 ba /\ Dj bu ba) (fun _ cE => ?_) (fun α aX hM => ?_)
   ·refine wc_ (((gt U O).1) = 1) (fun co => ?_) fun co => ?_
    ·have hk := Ze co dE
     refine sq_ fun go => g_' (qs_ 2 (lr_ 3 1 (i_ ((gt U O).2.1)) aW (qs_ 1 (lr_ 3 2 (i_ ((gt U O).2.2.1)) aW (qs_ 1 (lr_ 61 3 (.int .u64 ((gt U O).2.2.2.1)) aW (qs_ 1 (lr_ 3 4 (i_ ((gt U O).2.2.2.2)) aW ?_))))))))
     have hZ := ((aT.ext V).fr D (aj.djn aT.lt))
     have gE := (t_ (t_ (t_ (t_ (t_ ab.n ae.n) Y.n) Z.n) e.n) aa.n)
     have df := (aj.djn (ac.ltF.le gE))
     have h0 := ((cG.ext V).frS D df)
     have cM := (t_ (t_ (t_ (t_ ab.n ae.n) Y.n) Z.n) e.n)
     have eP := (av.dj ci (ac.ltF.le cM))
     obtain ⟨jv, f7, hl⟩ := bs_ hk
     refine ck_ (Zee D.wf hZ h0 (Dj.symm eP) f7) ?_
     rintro _ iQ ⟨jt, jb, dv, rfl, ah, jh, bF, dL, jf, bC, i8⟩
     refine Za (go _ _ (sq_ fun gp => g_' ?_))
     have gF := (t_ (t_ (t_ Y.n Z.n) e.n) aa.n)
     have eQ := (aj.djn (ak.ltF.le gF))
     have eR := (ao.djn (aN.lt.le ab.n))
     have dV := (t_ (t_ Y.n Z.n) e.n)
     have dg := (av.dj (Dj.symm eR) (ak.ltF.le dV))
     have dh := (ao.djn (ac.ltF.le ab.n))
     have c3 := (((cH.ext V).frS D eQ).frS ah (Dj.app (Dj.symm dh) dg))
     refine lr_ 34 0 (.agg #[.slice aA aE aB, .slice bj bG bm]) c3 (qs_ 1 ?_)
     have eS := (aj.djn aT.lt)
     have bJ := (aW.frS ah (Dj.app (Dj.symm df) (Dj.symm eS)))
     refine lr_ 3 1 (i_ ((gt U O).2.1)) bJ (qs_ 1 (lr_ 3 2 (i_ ((gt U O).2.2.1)) bJ (qs_ 1 (lr_ 61 3 (.int .u64 ((gt U O).2.2.2.1)) bJ (qs_ 1 (lr_ 3 4 (i_ ((gt U O).2.2.2.2)) bJ ?_))))))
     have eT := (aM.dj (aS.djn ac.ltF) (ac.ltF.le cM))
     have el := (((ar.ext V).fr D (aj.djn ar.lt)).fr ah (Dj.app (Dj.symm eT) a2))
     have eU := (be.dj (bd.djn ac.ltF) (ac.ltF.le cM))
     have c4 := (((aD.ext V).fr D (aj.djn aD.lt)).fr ah (Dj.app (Dj.symm eU) bp))
     obtain ⟨c9, f8, hm⟩ := bs_ hl
     refine ck_ (ZfB ah.wf el.sq c4 f8) ?_
     rintro _ iR ⟨rfl, ad⟩
     refine rk_ ad.wf [i_ 0, .slice none 0 0] fun i5 iS al aw hn => ?_
     obtain ⟨iT, g_, am, ho⟩ := ra_ 46 0 al.wf hn [i_ c9, .slice none 0 0] [i_ c9, .slice none 0 0]
     refine ek_ g_ (Za (gp _ _ (sq_ fun gq => g_' (lr_ 46 0 (.agg #[i_ c9, .slice none 0 0]) ho ?_))))
     obtain ⟨iF, f9, d_⟩ := bs_ hm
     refine ck_ (Zbn am.wf (Sq.nil (enc := ZaZ) (sz := 2) (by decide)) f9) ?_
     rintro _ iU ⟨rfl, an⟩
     refine qs_ 1 (Za (gq _ _ ?_))
     refine wb_ ((!iF)) (fun cp => ?_) fun cp => ?_
     ·have hq := Ze cp d_
      refine g_' ?_
      have gG := (t_ (t_ (t_ (t_ (t_ (t_ (t_ Y.n Z.n) e.n) aa.n) V.n) D.n) ah.n) ad.n)
      have eV := (aw.djn (ak.ltF.le gG))
      have em := ((((c3.frS ad dn_).ext al).frS am eV).frS an dn_)
      refine lr_ 34 0 (.agg #[.slice aA aE aB, .slice bj bG bm]) em (qs_ 1 ?_)
      have gH := (t_ (t_ D.n ah.n) ad.n)
      have eW := (aw.djn (cV.ltF.le gH))
      have bY := ((((bJ.frS ad dn_).ext al).frS am eW).frS an dn_)
      refine lr_ 3 1 (i_ ((gt U O).2.1)) bY (qs_ 1 (lr_ 3 2 (i_ ((gt U O).2.2.1)) bY (qs_ 1 (lr_ 61 3 (.int .u64 ((gt U O).2.2.2.1)) bY (qs_ 1 (lr_ 3 4 (i_ ((gt U O).2.2.2.2)) bY (qs_ 1 ?_)))))))
      have dW := (t_ (t_ (t_ V.n D.n) ah.n) ad.n)
      have eX := (aw.djn (ar.lt.le dW))
      have eo := ((((el.fr ad dn_).ext al).fr am eX).fr an dn_)
      have eY := (aw.djn (aD.lt.le dW))
      have h1 := ((((c4.fr ad dn_).ext al).fr am eY).fr an dn_)
      obtain ⟨jw, f_, hr⟩ := bs_ hq
      refine ck_ (ZeI an.wf eo.sq h1 f_) ?_
      rintro _ iV ⟨jn, fU, rfl, a6, dM, cz⟩
      obtain ⟨b8, cN, cd, rfl⟩ := dM.form
      refine qs_ 3 ?_
      have h2 := (em.frS a6 dn_)
      have js := (eo.fr a6 dn_)
      obtain ⟨iW, ha, bM, ht⟩ := ra_ 34 0 a6.wf h2 [.slice aA aE aB, .slice b8 cN cd] [.slice aA aE aB, .slice b8 cN cd]
      refine ek_ ha (Za ?_)
      have gI := (t_ ah.n ad.n)
      have eZ := (aw.djn (bF.lt.le ad.n))
      have gJ := (t_ (t_ (t_ (t_ (t_ Y.n Z.n) e.n) aa.n) V.n) D.n)
      have e0 := (bC.dj dg (ak.ltF.le gJ))
      have h3 := ((((((bF.fr ad dn_).ext al).fr am eZ).fr an dn_).fr a6 dn_).fr bM (Dj.symm e0))
      have gK := (t_ (t_ (t_ (t_ (t_ (t_ (t_ (t_ (t_ ab.n ae.n) Y.n) Z.n) e.n) aa.n) V.n) D.n) ah.n) ad.n)
      have e1 := (aw.djn (ac.ltF.le gK))
      have h4 := ((((((dL.frS ad dn_).ext al).frS am e1).frS an dn_).frS a6 dn_).frS bM dh)
      have e2 := (ao.djn bE.lt)
      have e3 := (be.dj (Dj.symm e2) (ak.ltF.le dV))
      have gL := (t_ (t_ (t_ (t_ (t_ (t_ (t_ (t_ (t_ (t_ Y.n Z.n) e.n) aa.n) V.n) D.n) ah.n) ad.n) al.n) am.n) an.n)
      have e4 := (cz.dj e3 (ak.ltF.le gL))
      have h5 := (dM.fr bM (Dj.symm e4))
      have gM := (t_ (t_ (t_ (t_ ah.n ad.n) al.n) am.n) an.n)
      have gN := (t_ V.n D.n)
      have e5 := (bC.dj bp (aD.lt.le gN))
      have gO := (t_ (t_ (t_ ad.n al.n) am.n) an.n)
      have e6 := (cz.dj (Dj.symm e5) (bF.lt.le gO))
      obtain rfl := oi_ hr
      exact cE _ _ ⟨dv, (.slice b8 cN cd), fU, ha_, (fs_ D.wf (fs_ D.wf (fs_ D.wf (fs_ D.wf ((fs_ D.wf (fs_ D.wf (fr_ D.wf) ah (Inn.app (Inn.right Inn.left) (Inn.right (Inn.right ir_)))) ad in_).extR al) am (aw.fresh gI)) an in_) a6 in_) bM Inn.left), h3, h4, h5, ht, (Inn.trans ir_ (Nat.le_refl _) bC), (Inn.trans ir_ gM cz), (Dj.symm e6)⟩
     have hu := ZM cp d_
     refine Zg ?_
     have gP := (t_ ah.n ad.n)
     have e7 := (aw.djn (bF.lt.le ad.n))
     have h6 := ((((bF.fr ad dn_).ext al).fr am e7).fr an dn_)
     have gQ := (t_ (t_ (t_ (t_ (t_ (t_ (t_ (t_ (t_ ab.n ae.n) Y.n) Z.n) e.n) aa.n) V.n) D.n) ah.n) ad.n)
     have e8 := (aw.djn (ac.ltF.le gQ))
     have h7 := ((((dL.frS ad dn_).ext al).frS am e8).frS an dn_)
     have gR := (t_ (t_ (t_ V.n D.n) ah.n) ad.n)
     have e9 := (aw.djn (aD.lt.le gR))
     have h8 := ((((c4.fr ad dn_).ext al).fr am e9).fr an dn_)
     have gS := (t_ (t_ (t_ (t_ (t_ (t_ (t_ Y.n Z.n) e.n) aa.n) V.n) D.n) ah.n) ad.n)
     have e_ := (aw.djn (ak.ltF.le gS))
     have h9 := ((((c3.frS ad dn_).ext al).frS am e_).frS an dn_)
     have gT := (t_ V.n D.n)
     have fa := (bC.dj bp (aD.lt.le gT))
     obtain rfl := oi_ hu
     exact cE _ _ ⟨dv, (.slice bj bG bm), aI, ha_, (fs_ D.wf (fs_ D.wf ((fs_ D.wf (fs_ D.wf (fr_ D.wf) ah (Inn.app (Inn.right Inn.left) (Inn.right (Inn.right ir_)))) ad in_).extR al) am (aw.fresh gP)) an in_), h6, h7, h8, h9, (Inn.trans ir_ (Nat.le_refl _) bC), ir_, fa⟩
    have hv := Zi co dE
    refine Zg ?_
    have h_ := ((aT.ext V).fr D (aj.djn aT.lt))
    have gU := (t_ (t_ (t_ (t_ (t_ ab.n ae.n) Y.n) Z.n) e.n) aa.n)
    have fb := (aj.djn (ac.ltF.le gU))
    have ia := ((cG.ext V).frS D fb)
    have ib := ((aD.ext V).fr D (aj.djn aD.lt))
    have gV := (t_ (t_ (t_ Y.n Z.n) e.n) aa.n)
    have fc := (aj.djn (ak.ltF.le gV))
    have ic := ((cH.ext V).frS D fc)
    obtain rfl := oi_ hv
    exact cE _ _ ⟨aH, (.slice bj bG bm), aI, ha_, (fr_ D.wf), h_, ia, ib, ic, ir_, ir_, bp⟩
   obtain ⟨bu, c0, ba, dB, au, dI, dJ, bR, dK, aC, bB, ch⟩ := hM
   obtain ⟨β, rfl⟩ := Zk dB
   clear dB
   obtain ⟨bK, bU, bL, rfl⟩ := bR.form
   refine gm _ _ (sq_ fun gu => g_' (qs_ 1 ?_))
   have di := (aj.djn aT.lt)
   have gW := (t_ (t_ (t_ (t_ (t_ ab.n ae.n) Y.n) Z.n) e.n) aa.n)
   have dk := (aj.djn (ac.ltF.le gW))
   have gX := (t_ (t_ (t_ Y.n Z.n) e.n) aa.n)
   have fd := (aj.djn (ak.ltF.le gX))
   have c5 := (aW.frS au (Dj.app (Dj.symm fd) (Dj.app (Dj.symm dk) (Dj.symm di))))
   refine lr_ 5 0 (.int .u8 ((gt U O).1)) c5 (qs_ 1 (Za (gu _ _ ?_)))
   refine wc_ (((gt U O).1) = 2) (fun cq => ?_) fun cq => ?_
   ·have hw := Ze cq d8
    refine sq_ fun gv => g_' (qs_ 2 (lr_ 3 1 (i_ ((gt U O).2.1)) c5 ?_))
    have cO := (t_ (t_ (t_ (t_ ab.n ae.n) Y.n) Z.n) e.n)
    have ff := (av.dj ci (ac.ltF.le cO))
    have dX := (t_ (t_ (t_ (t_ (t_ (t_ (t_ ab.n ae.n) Y.n) Z.n) e.n) aa.n) V.n) D.n)
    have fg := (aC.dj ff (ac.ltF.le dX))
    obtain ⟨bi, ga, hx⟩ := bs_ hw
    refine ck_ (ZdJ au.wf dI dJ fg ga) ?_
    rintro ju iX ⟨_, jc, dw, rfl, aG, ji, bS, dN, jg, bD, i9⟩
    refine Za (gv _ _ (sq_ fun gw => g_' ?_))
    have fh := (ao.djn (aN.lt.le ab.n))
    have dY := (t_ (t_ Y.n Z.n) e.n)
    have fj := (av.dj (Dj.symm fh) (ak.ltF.le dY))
    have gY := (t_ (t_ (t_ (t_ (t_ Y.n Z.n) e.n) aa.n) V.n) D.n)
    have dm := (aC.dj fj (ak.ltF.le gY))
    have dn := (ao.djn (ac.ltF.le ab.n))
    have c6 := (dK.frS aG (Dj.app (Dj.symm dn) dm))
    refine lr_ 34 0 (.agg #[.slice aA aE aB, .slice bK bU bL]) c6 (qs_ 1 ?_)
    have fm := (aC.dj (Dj.symm di) (cV.ltF.le D.n))
    have ep := (c5.frS aG (Dj.app (Dj.symm dk) fm))
    refine lr_ 3 1 (i_ ((gt U O).2.1)) ep ?_
    have dp := (aM.dj (aS.djn ac.ltF) (ac.ltF.le cO))
    have fo := (ao.djn bf.lt)
    have fu := (aM.dj (Dj.symm fo) (ak.ltF.le dY))
    have dZ := (t_ V.n D.n)
    have dq := (aC.dj a2 (ar.lt.le dZ))
    have c7 := ((((ar.ext V).fr D (aj.djn ar.lt)).fr au (Dj.app (Dj.symm fu) (Dj.app (Dj.symm dp) a2))).fr aG (Dj.app (Dj.symm dp) dq))
    have fv := (be.dj (bd.djn ac.ltF) (ac.ltF.le cO))
    have fw := (bB.dj fv (ac.ltF.le dX))
    have c8 := (bR.fr aG (Dj.app (Dj.symm fw) ch))
    obtain ⟨iG, gb, eb⟩ := bs_ hx
    refine ck_ (ZcO aG.wf c7.sq c8 gb) ?_
    rintro _ iY ⟨rfl, ai⟩
    refine Za (gw _ _ ?_)
    refine wb_ (iG) (fun cr => ?_) fun cr => ?_
    ·have hy := Ze cr eb
     refine g_' ?_
     have eq := (c6.frS ai dn_)
     refine lr_ 34 0 (.agg #[.slice aA aE aB, .slice bK bU bL]) eq (qs_ 1 ?_)
     have id := (ep.frS ai dn_)
     refine lr_ 3 1 (i_ ((gt U O).2.1)) id ?_
     have ig := (c7.fr ai dn_)
     have ih := (c8.fr ai dn_)
     obtain ⟨eu, gc, hz⟩ := bs_ hy
     refine ck_ (Zed ai.wf ig.sq ih gc) ?_
     rintro _ iZ ⟨jo, fV, jp, fW, rfl, bq, dO, dP, cA, cB, fx⟩
     obtain ⟨b9, cP, ce, rfl⟩ := dO.form
     obtain ⟨b_, cQ, cf, rfl⟩ := dP.form
     have ij := (eq.frS bq dn_)
     obtain ⟨i0, hb, br, hA⟩ := ra_ 34 0 bq.wf ij [.slice b9 cP ce, .slice b_ cQ cf] [.slice b9 cP ce, .slice b_ cQ cf]
     refine ek_ hb (Za (cD _ _ (g_' ?_)))
     obtain ⟨fZ, hB⟩ := Zb hz
     refine w_' ((O + 1)) (Zo (by have := fZ; omega)) (qs_ 1 (Za ?_))
     have d0 := (t_ (t_ aa.n V.n) D.n)
     have gZ := (t_ (t_ (t_ (t_ (t_ (t_ Y.n Z.n) e.n) aa.n) V.n) D.n) au.n)
     have fy := (bD.dj dm (ak.ltF.le gZ))
     have ik := (((bS.fr ai dn_).fr bq dn_).fr br (Dj.symm fy))
     have il := (((dN.frS ai dn_).frS bq dn_).frS br dn)
     have d1 := (t_ (t_ (t_ (t_ (t_ (t_ (t_ (t_ Y.n Z.n) e.n) aa.n) V.n) D.n) au.n) aG.n) ai.n)
     have fz := (cA.djn (ak.ltF.le d1))
     have im := (dO.fr br (Dj.symm fz))
     have fA := (cB.djn (ak.ltF.le d1))
     have io := (dP.fr br (Dj.symm fA))
     have g0 := (t_ (t_ (t_ aa.n V.n) D.n) au.n)
     have d2 := (t_ (t_ (t_ (t_ (t_ aa.n V.n) D.n) au.n) aG.n) ai.n)
     have fB := (cA.djn (bS.lt.le ai.n))
     have fC := (cB.djn (bS.lt.le ai.n))
     obtain rfl := oi_ hB
     exact cC cL _ _ lt_ ⟨(O + 1), bi.2.1, bi.2.2.1, bi.2.2.2, eu.1, eu.2, dw, (.slice b9 cP ce), fV, (.slice b_ cQ cf), fW, bO, ha_, (fs_ e.wf (fs_ e.wf (fs_ e.wf (fs_ e.wf (fs_ e.wf (fs_ e.wf ((fs_ e.wf (fr_ e.wf) aa ir_).extR V) D (aj.fresh aa.n)) au (Inn.app Inn.left (Inn.app (Inn.right Inn.left) (Inn.trans (Inn.right (Inn.right ir_)) (Nat.le_refl _) av)))) aG (Inn.app (Inn.right Inn.left) (Inn.trans (Inn.trans (Inn.right (Inn.right ir_)) (Nat.le_refl _) av) d0 aC))) ai in_) bq in_) br Inn.left), ik, il, im, io.sq, hA, (Inn.trans (Inn.trans (Inn.trans ir_ (Nat.le_refl _) av) d0 aC) g0 bD), (cA.fresh d2), (cB.fresh d2), (Dj.symm fB), (Dj.symm fC), fx⟩
    have hC := ZM cr eb
    refine Zg (cD _ _ (g_' ?_))
    obtain ⟨f0, hD⟩ := Zb hC
    refine w_' ((O + 1)) (Zo (by have := f0; omega)) (qs_ 1 (Za ?_))
    have cR := (t_ (t_ aa.n V.n) D.n)
    have ip := (bS.fr ai dn_)
    have iq := (dN.frS ai dn_)
    have ir := (c7.fr ai dn_)
    have it := (c8.fr ai dn_)
    have iu := (c6.frS ai dn_)
    have g1 := (t_ (t_ (t_ aa.n V.n) D.n) au.n)
    have g2 := (t_ (t_ V.n D.n) au.n)
    have fD := (bD.dj dq (ar.lt.le g2))
    have fE := (bB.dj (Dj.symm cg) (ar.lt.le dZ))
    obtain rfl := oi_ hD
    exact cC cL _ _ lt_ ⟨(O + 1), bi.2.1, bi.2.2.1, bi.2.2.2, bg, aV.2.2, dw, (.slice aA aE aB), aK, (.slice bK bU bL), ba, bO, ha_, (fs_ e.wf (fs_ e.wf (fs_ e.wf (fs_ e.wf ((fs_ e.wf (fr_ e.wf) aa ir_).extR V) D (aj.fresh aa.n)) au (Inn.app Inn.left (Inn.app (Inn.right Inn.left) (Inn.trans (Inn.right (Inn.right ir_)) (Nat.le_refl _) av)))) aG (Inn.app (Inn.right Inn.left) (Inn.trans (Inn.trans (Inn.right (Inn.right ir_)) (Nat.le_refl _) av) cR aC))) ai in_), ip, iq, ir, it, iu, (Inn.trans (Inn.trans (Inn.trans ir_ (Nat.le_refl _) av) cR aC) g1 bD), (Inn.trans ir_ (Nat.le_refl _) aM), (Inn.trans (Inn.trans ir_ (Nat.le_refl _) be) cR bB), fD, (bD.dj ch bR.lt), (Dj.symm fE)⟩
   have hE := Zi cq d8
   refine Zg (cD _ _ (g_' ?_))
   obtain ⟨f1, hF⟩ := Zb hE
   refine w_' ((O + 1)) (Zo (by have := f1; omega)) (qs_ 1 (Za ?_))
   have g3 := (t_ (t_ (t_ (t_ ab.n ae.n) Y.n) Z.n) e.n)
   have fF := (aM.dj (aS.djn ac.ltF) (ac.ltF.le g3))
   have fG := (ao.djn bf.lt)
   have g4 := (t_ (t_ Y.n Z.n) e.n)
   have fH := (aM.dj (Dj.symm fG) (ak.ltF.le g4))
   have iv := (((ar.ext V).fr D (aj.djn ar.lt)).fr au (Dj.app (Dj.symm fH) (Dj.app (Dj.symm fF) a2)))
   have d3 := (t_ (t_ aa.n V.n) D.n)
   have d4 := (t_ V.n D.n)
   have fI := (aC.dj a2 (ar.lt.le d4))
   have fJ := (bB.dj (Dj.symm cg) (ar.lt.le d4))
   obtain rfl := oi_ hF
   exact cC cL _ _ lt_ ⟨(O + 1), aV.1, o2, aV.2.1, bg, aV.2.2, bu, (.slice aA aE aB), aK, (.slice bK bU bL), ba, bO, ha_, (fs_ e.wf (fs_ e.wf ((fs_ e.wf (fr_ e.wf) aa ir_).extR V) D (aj.fresh aa.n)) au (Inn.app Inn.left (Inn.app (Inn.right Inn.left) (Inn.trans (Inn.right (Inn.right ir_)) (Nat.le_refl _) av)))), dI, dJ, iv, bR, dK, (Inn.trans (Inn.trans ir_ (Nat.le_refl _) av) d3 aC), (Inn.trans ir_ (Nat.le_refl _) aM), (Inn.trans (Inn.trans ir_ (Nat.le_refl _) be) d3 bB), fI, ch, (Dj.symm fJ)⟩
  have hG := Zi bx bA
  refine ZH (Zj (Zj (ZT ?_)))
  obtain rfl := oi_ hG
  obtain rfl := Zv bO
  exact gi _ _ ⟨aH, (.slice aA aE aB), aK, (.slice bj bG bm), aI, ha_, (fs_ e.wf (fr_ e.wf) aa ir_), aT, cG, ar, aD, cH, (Inn.trans ir_ (Nat.le_refl _) av), (Inn.trans ir_ (Nat.le_refl _) aM), (Inn.trans ir_ (Nat.le_refl _) be), a2, bp, cg⟩
 obtain ⟨a7, cW, a8, cX, a_, dz, cj, gB, gC, dG, dH, gD, cw, cx, cy, eC, eD, eE⟩ := hM
 obtain ⟨β, rfl⟩ := Zk dz
 clear dz
 obtain ⟨bk, bH, bn, rfl⟩ := dG.form
 obtain ⟨bl, bI, bo, rfl⟩ := dH.form
 refine gg _ _ (sq_ fun gx => ?_)
 refine ZR [0, 1, 2, 3, 4] (by kernel_rfl) ?_
 refine es_ 1 (mr_ 34 0 (.agg #[.slice bk bH bn, .slice bl bI bo]) gD (es_ 1 ?_))
 have g5 := (t_ (t_ af.n aq.n) ab.n)
 have dr := (ao.djn (az.ltF.le g5))
 have g6 := (t_ (t_ (t_ af.n aq.n) ab.n) ae.n)
 have fK := (aL.djn (az.ltF.le g6))
 have dt := (bP.djn (az.ltF.le af.n))
 have du := (bQ.djn (az.ltF.le af.n))
 have iw := ((((((((az.frS af dn_).frS aq dn_).frS ab dn_).ext ae).ext Y).frS Z dr).frS e fK).frS cj (Dj.app dr (Dj.app du dt)))
 obtain ⟨ew, hc, bs, hI⟩ := ra_ 34 0 cj.wf iw [.slice bk bH bn, .slice bl bI bo] [.slice bk bH bn, .slice bl bI bo]
 refine fk_ hc (ZL) (es_ 1 ?_)
 refine ZK ?_
 refine gx _ _ ?_
 refine Zh ?_
 refine Zac (vs := [pt_ ay 0, .agg #[.slice bk bH bn, .slice bl bI bo], .bool true]) (Zdb (by kernel_rfl) (ZQ (Eq.trans (b := aL_ 34 (pt_ aZ 0) ew) (by kernel_rfl) (hI.l_)) (rt_ (rfl)))) ?_
 have bV := (t_ (t_ ap.n ag.n) af.n)
 have cS := (t_ (t_ (t_ (t_ (t_ (t_ af.n aq.n) ab.n) ae.n) Y.n) Z.n) e.n)
 have fL := (cw.dj dt (az.ltF.le cS))
 have ix := (gB.fr bs (Dj.symm fL))
 have iy := (gC.frS bs (Dj.symm du))
 have d5 := (t_ af.n aq.n)
 have fM := (aS.djn (az.ltF.le d5))
 have fN := (cx.dj fM (az.ltF.le cS))
 have iz := (dG.fr bs (Dj.symm fN))
 have fO := (bd.djn (az.ltF.le d5))
 have fP := (cy.dj fO (az.ltF.le cS))
 have iB := (dH.fr bs (Dj.symm fP))
 have cT := (t_ (t_ (t_ (t_ (t_ (t_ (t_ (t_ ap.n ag.n) af.n) aq.n) ab.n) ae.n) Y.n) Z.n) e.n)
 have d6 := (t_ (t_ (t_ ap.n ag.n) af.n) aq.n)
 have cU := (t_ (t_ (t_ (t_ ab.n ae.n) Y.n) Z.n) e.n)
 have fQ := (cw.dj ci (ac.ltF.le cU))
 have fR := (cx.dj (aS.djn ac.ltF) (ac.ltF.le cU))
 have fS := (cy.dj (bd.djn ac.ltF) (ac.ltF.le cU))
 obtain rfl := oi_ hg
 exact (Zko ⟨(.slice aQ aU aR), a7, ay, (.slice bk bH bn), a8, (.slice bl bI bo), a_, rfl, (fs_ ax (fs_ ax (fs_ ax (fs_ ax (((fs_ ax (fs_ ax (fs_ ax (((f0_ ax).extR ap).extR ag) af in_) aq in_) ab in_).extR ae).extR Y) Z (ao.fresh cK)) e (aL.fresh dR)) cj (Inn.app (ao.fresh cK) (Inn.app (bQ.fresh bV) (bP.fresh bV)))) bs (dy.fresh ap.n)), ix, iy, iz, iB, (Inn.trans (bP.fresh bV) cT cw), (bQ.fresh bV), (Inn.trans (aS.fresh d6) cT cx), (Inn.trans (bd.fresh d6) cT cy), fQ, eC, (Dj.symm fR), eD, (Dj.symm fS), eE⟩)
theorem Zg7 {H : AH} {Z : Nat} {ac : Value} {aj : Fp} {bB : List (Bool × List (Int × Int × Int) × List (Int × Int × Int))} {bC : Int} {bD : Int} {ap : Int} {ay : Int} {az : Int} {au : Int} {aq : Int} {ar : Int} {r : List (Int × Int × Int) × Er × List (Bool × List (Int × Int × Int) × List (Int × Int × Int)) × Int × Int}
    (V : WF H) (aP : Nd Zc 3 H ac bB aj []) (al : Row H Z [ac, i_ bC, i_ bD]) (a8 : Dj aj [Z]) (bf : ZcJ bB bC bD ap ay az au aq ar = some r) :
    ACalls Tryz.prog 6 #[pt_ Z 0, i_ ap, .agg #[i_ ay, i_ az, i_ au, i_ aq, i_ ar]] H fun v H' => ∃ (bI : Value) (aC : Fp) (bK : Value) (aD : Fp) (aB : Fp), v = .tuple #[bI, bK] /\ FrS ([Z] ++ aj) H H' /\ Ow ZA 3 H' bI r.1 aC /\ Ev 48 82 H' bK r.2.1 aD /\ Nd Zc 3 H' ac r.2.2.1 aB [] /\ Row H' Z [ac, i_ r.2.2.2.1, i_ r.2.2.2.2] /\ Inn [] H aC /\ Inn [] H aD /\ Inn aj H aB /\ Dj aC aD /\ Dj aC aB /\ Dj aD aB := by
 refine ab_ Tryz.func6 ?_
 unfold ZcJ at bf
 refine sq_ fun ck => g_' ?_
 refine rl_ V [i_ ay, i_ az, i_ au, i_ aq, i_ ar] fun c5 cZ e c7 cL => ?_
 refine qs_ 2 (Za (ck _ _ (sq_ fun cm => g_' (qs_ 2 (lr_ 28 0 (.agg #[i_ ay, i_ az, i_ au, i_ aq, i_ ar]) cL ?_)))))
 have aX := (aP.ext e)
 have aY := (al.ext e)
 obtain ⟨Y, b_, bF⟩ := bs_ bf
 refine ck_ (Zek e.wf aX aY b_) ?_
 rintro _ c0 ⟨c8, bW, da, bX, rfl, O, an, br, aR, bi, c6⟩
 obtain ⟨a46, ao, ai, rfl⟩ := an.form
 refine qs_ 5 (Za (cm _ _ (sq_ fun cn => sq_ fun bl => g_' (qs_ 1 ?_))))
 rcases (br).cases with ⟨aN, rfl⟩ | ⟨aN, aW, a2, rfl⟩
 ·have cM := Ze aN bF
  refine qs_ 1 (Za (bl _ _ ?_))
  refine wb_ false (fun h => by cases h) fun _ => ?_
  refine Zg (cn _ _ (sq_ fun co => sq_ fun cp => g_' (qs_ 2 ?_)))
  have cT := (aX.fr O dn_)
  have cU := (aY.frS O dn_)
  obtain ⟨ah, ca, bG⟩ := bs_ cM
  refine ck_ (ZdJ O.wf cT cU a8 ca) ?_
  rintro db aw ⟨_, bY, af, rfl, U, bs, bt, bu, ce, ab, bU⟩
  refine qs_ 1 (Za (cp _ _ (sq_ fun bm => g_' (qs_ 1 ?_))))
  rcases (bs).cases with ⟨aO, rfl⟩ | ⟨aO, t76, a6, rfl⟩
  ·have cN := Ze aO bG
   refine qs_ 1 (Za (bm _ _ ?_))
   refine wb_ false (fun h => by cases h) fun _ => ?_
   refine Zg (co _ _ (sq_ fun cq => sq_ fun cr => g_' (qs_ 1 ?_)))
   have aK := (aR.djn (aP.lt.le e.n))
   have aL := (aR.djn (al.ltF.le e.n))
   have aZ := (an.fr U (Dj.app (Dj.symm aL) (Dj.symm aK)))
   refine aZ.sq.ln_ 37 (qs_ 1 (Za (cr _ _ ?_)))
   obtain ⟨bM, b8, bH⟩ := bs_ cN
   refine ZC (fun α ax => ∃ aJ, bM = Sum.inr aJ /\ ∃ (aE : Fp), Has α [(8, .slice a46 ao ai)] /\ FrS ([Z] ++ af) aw ax /\ Nd Zc 3 ax ac aJ.1 aE [] /\ Row ax Z [ac, i_ ah.2.2.1, i_ aJ.2] /\ Inn af aw aE) (fun _ cu => ?_) (fun α ax hM => ?_)
   ·refine Zl ?_
    obtain ⟨bA, b6⟩ := Zt.1 b8
    refine ZI (fun n α av => ∃ (aH : List (Bool × List (Int × Int × Int) × List (Int × Int × Int))), ∃ (aI : Int), ∃ (D : Int), ∃ (aA : Fp), ZO (fun zz_ => ZbV ap Y ah zz_.1 zz_.2.1 zz_.2.2) n (aH, aI, D) = some bM /\ Has α [(0, pt_ Z 0), (1, i_ ap), (8, .slice a46 ao ai), (31, .slice a46 ao ai), (32, i_ (Y.1.length : Int)), (33, i_ D)] /\ FrS ([Z] ++ af) aw av /\ Nd Zc 3 av ac aH aA [] /\ Row av Z [ac, i_ ah.2.2.1, i_ aI] /\ Inn af aw aA) bA ⟨ah.2.1, ah.2.2.2, 0, af, b6, ha_, (fr_ U.wf), bt, bu, ir_⟩ ?_
    rintro bA α av ⟨aH, aI, D, aA, b5, bd, aa, aS, bn, ag⟩ c3 cf
    obtain ⟨cx, cV, rfl, am, aQ⟩ := Zx b5
    obtain ⟨β, rfl⟩ := Zk bd
    clear bd
    replace am : ZbV ap Y ah aH aI D = some cV := am
    unfold ZbV at am
    refine sn_ (sq_ fun cg => ?_)
    refine wc_ (D < (Y.1.length : Int)) (fun ak => ?_) fun ak => ?_
    ·have cB := Ze ak am
     refine Zg (cg _ _ (sq_ fun ch => Zl (sq_ fun ci => g_' ?_)))
     obtain ⟨bc, cC⟩ := Zb cB
     have bN := (ab.dj (Dj.symm aK) an.lt)
     have bJ := (aZ.fr aa (Dj.app (Dj.symm aL) bN))
     refine bJ.sq.ix_ 37 bc ak (le_ 78 0 (.agg #[i_ ((gt Y.1 D).1), i_ ((gt Y.1 D).2.1), .int .u64 ((gt Y.1 D).2.2)]) bJ.sq bc ak ?_)
     refine rk_ aa.wf [i_ 0, i_ 0, .int .u64 0] fun c4 cW ad aF cD => ?_
     obtain ⟨cX, cA, ae, aU⟩ := ra_ 78 0 ad.wf cD [i_ ((gt Y.1 D).1), i_ ((gt Y.1 D).2.1), .int .u64 ((gt Y.1 D).2.2)] [i_ ((gt Y.1 D).1), i_ ((gt Y.1 D).2.1), .int .u64 ((gt Y.1 D).2.2)]
     refine ek_ cA (Za (ci _ _ (sq_ fun cj => g_' (qs_ 2 (lr_ 3 0 (i_ ((gt Y.1 D).1)) aU (qs_ 1 (lr_ 3 1 (i_ ((gt Y.1 D).2.1)) aU (qs_ 1 (lr_ 61 2 (.int .u64 ((gt Y.1 D).2.2)) aU (qs_ 1 ?_))))))))))
     have cO := ((aS.ext ad).fr ae (aF.djn aS.lt))
     have bv := (t_ (t_ (t_ e.n O.n) U.n) aa.n)
     have bO := (aF.djn (al.ltF.le bv))
     have cP := ((bn.ext ad).frS ae bO)
     have aG := (t_ e.n O.n)
     have bP := (ab.dj a8 (al.ltF.le aG))
     have aT := (t_ (t_ e.n O.n) U.n)
     have bQ := (ag.dj bP (al.ltF.le aT))
     obtain ⟨bL, b9, bE⟩ := bs_ cC
     refine ck_ (Zee ae.wf cO cP (Dj.symm bQ) b9) ?_
     rintro _ cY ⟨c9, bV, bb, rfl, a_, bo, bp, bq, cd, bh, bR⟩
     refine qs_ 5 (Za (cj _ _ (sq_ fun bk => g_' (qs_ 1 ?_))))
     rcases (bo).cases with ⟨aM, rfl⟩ | ⟨aM, aV, a1, rfl⟩
     ·have cE := Ze aM bE
      refine qs_ 1 (Za (bk _ _ ?_))
      refine wb_ false (fun h => by cases h) fun _ => ?_
      refine Zg (ch _ _ (g_' ?_))
      obtain ⟨bZ, cF⟩ := Zb cE
      refine w_' ((D + 1)) (Zo (by have := bZ; omega)) (qs_ 1 (Za ?_))
      have cy := (t_ (t_ aa.n ad.n) ae.n)
      obtain rfl := oi_ cF
      exact cf cx _ _ lt_ ⟨bL.2.2.1, bL.2.2.2, (D + 1), bb, aQ, ha_, (fs_ U.wf (fs_ U.wf ((fs_ U.wf (fr_ U.wf) aa ir_).extR ad) ae (aF.fresh aa.n)) a_ (Inn.app Inn.left (Inn.trans (Inn.right ir_) (Nat.le_refl _) ag))), bp, bq, (Inn.trans (Inn.trans ir_ (Nat.le_refl _) ag) cy bh)⟩
     have cG := Zi aM bE
     refine l_' (.bool true) (Zbl Tryz.prog .neq 39 (.tmp 49) (.const .nilIface) (.iface aV a1) .nilIface) (ZcT (by kernel_rfl)) (Za (bk _ _ ?_))
     refine wb_ true (fun _ => ?_) fun h => by cases h
     refine sn_ ?_
     refine Zh (ZD (Zf (Zf (ZD (Zf (Zf ?_))))))
     obtain ⟨c_, bg, cc⟩ := map_some cG
     subst cc
     obtain rfl := Zv aQ
     have b7 := elim_inl bH
     rw [b7] at bg
     refine br_ [.slice none 0 0, .iface aV a1] ?_
     have bw := (t_ (t_ (t_ (t_ (t_ e.n O.n) U.n) aa.n) ad.n) ae.n)
     obtain rfl := oi_ bg
     exact ⟨(.slice none 0 0), [], (.iface aV a1), bV, bb, rfl, (fs_ V (fs_ V ((fs_ V (fs_ V (fs_ V ((fr_ V).extR e) O in_) U ir_) aa (Inn.app Inn.left (Inn.trans (Inn.right ir_) aG ab))).extR ad) ae (aF.fresh bv)) a_ (Inn.app Inn.left (Inn.trans (Inn.trans (Inn.right ir_) aG ab) aT ag))), (Ow.nil (by decide)), bo, bp, bq, in_, (cd.fresh bw), (Inn.trans (Inn.trans (Inn.trans ir_ aG ab) aT ag) bw bh), dn_, dn_, bR⟩
    have cH := Zi ak am
    refine ZH (Zj (Zj (ZT ?_)))
    obtain rfl := oi_ cH
    obtain rfl := Zv aQ
    exact cu _ _ ⟨_, rfl, aA, ha_, (fs_ U.wf (fr_ U.wf) aa ir_), aS, bn, (Inn.trans ir_ (Nat.le_refl _) ag)⟩
   obtain ⟨aJ, rfl, aE, be, ba, cv, cw, bj⟩ := hM
   have cI := elim_inr bH
   obtain ⟨β, rfl⟩ := Zk be
   clear be
   refine cq _ _ (sn_ ?_)
   refine Zh ?_
   refine br_ [.slice a46 ao ai, .nilIface] ?_
   have bx := (t_ e.n O.n)
   have a7 := (ab.dj (Dj.symm aK) an.lt)
   have cQ := (aZ.fr ba (Dj.app (Dj.symm aL) a7))
   have cz := (t_ (t_ e.n O.n) U.n)
   have bS := (bj.dj a7 (an.lt.le U.n))
   obtain rfl := oi_ cI
   exact ⟨(.slice a46 ao ai), bW, (.nilIface), [], aE, rfl, (fs_ V (fs_ V (fs_ V ((fr_ V).extR e) O in_) U ir_) ba (Inn.app Inn.left (Inn.trans (Inn.right ir_) bx ab))), cQ, Ev.nil, cv, cw, (aR.fresh e.n), in_, (Inn.trans (Inn.trans ir_ bx ab) cz bj), Dj.nil_r, (Dj.symm bS), dn_⟩
  have cJ := Zi aO bG
  refine l_' (.bool true) (Zbl Tryz.prog .neq 39 (.tmp 28) (.const .nilIface) (.iface t76 a6) .nilIface) (ZcT (by kernel_rfl)) (Za (bm _ _ ?_))
  refine wb_ true (fun _ => ?_) fun h => by cases h
  refine sn_ ?_
  refine Zh (Zf ?_)
  refine br_ [.slice none 0 0, .iface t76 a6] ?_
  have bz := (t_ e.n O.n)
  obtain rfl := oi_ cJ
  exact ⟨(.slice none 0 0), [], (.iface t76 a6), bY, af, rfl, (fs_ V (fs_ V ((fr_ V).extR e) O in_) U ir_), (Ow.nil (by decide)), bs, bt, bu, in_, (ce.fresh bz), (Inn.trans ir_ bz ab), dn_, dn_, bU⟩
 have cK := Zi aN bF
 refine l_' (.bool true) (Zbl Tryz.prog .neq 39 (.tmp 22) (.const .nilIface) (.iface aW a2) .nilIface) (ZcT (by kernel_rfl)) (Za (bl _ _ ?_))
 refine wb_ true (fun _ => ?_) fun h => by cases h
 refine sn_ ?_
 refine Zh (Zf ?_)
 refine br_ [.slice none 0 0, .iface aW a2] ?_
 have cR := (aX.fr O dn_)
 have cS := (aY.frS O dn_)
 have bT := (bi.djn (aP.lt.le e.n))
 obtain rfl := oi_ cK
 exact ⟨(.slice none 0 0), [], (.iface aW a2), bX, aj, rfl, (fs_ V ((fr_ V).extR e) O in_), (Ow.nil (by decide)), br, cR, cS, in_, (bi.fresh e.n), ir_, dn_, dn_, bT⟩
end Go.Vd

/-! (KSc8) -/

set_option maxRecDepth 100000
set_option maxHeartbeats 4000000
set_option linter.unusedVariables false
namespace Go.Vd
open Go.Proofs
attribute [local irreducible] Zp Zq aWp
theorem ZgH {H : AH} {a8 : Value} {aM : Fp} {ap : Value} {cd : Fp} {aj : Er} {ae : Int} {U : List (Int × Int)} {r : Bool}
    (e : WF H) (al : Ev 48 82 H a8 aj aM) (ba : Sq ZaZ 2 H ap U cd) (bh : Zbs aj ae U = some r) :
    ACalls Tryz.prog 8 #[a8, .agg #[i_ ae, ap]] H fun v H' => v = .bool r /\ FrS [] H H' := by
 refine ab_ Tryz.func8 ?_
 unfold Zbs at bh
 refine sq_ fun k1 => g_' ?_
 refine ZaK e [i_ ae, ap] (Zu (rfl) (Zu (ba.one1) (Z1))) (by kernel_rfl) fun b2 dN V dW aG => ?_
 refine qs_ 1 (Za (k1 _ _ (sq_ fun cP => sq_ fun cR => g_' (lr_ 46 0 (.agg #[i_ ae, ap]) aG ?_))))
 have bQ := (ba.ext V)
 obtain ⟨dG, cq, bD⟩ := bs_ bh
 refine ck_ (Zbn V.wf bQ cq) ?_
 rintro _ aY ⟨rfl, D⟩
 refine qs_ 1 (Za (cR _ _ ?_))
 refine wb_ ((!dG)) (fun aO => ?_) fun aO => ?_
 ·have bH := Ze aO bD
  refine sq_ fun bo => g_' (qs_ 1 ?_)
  have dC := ((al.ext V).fr D dn_)
  rcases (dC).cases with ⟨aP, rfl⟩ | ⟨aP, dt, dF, rfl⟩
  ·have de := Ze aP bH
   refine qs_ 2 (Za (bo _ _ ?_))
   refine Zh (Zf ?_)
   refine br_ [.bool true] ?_
   obtain rfl := oi_ de
   exact ⟨rfl, (fs_ e ((f0_ e).extR V) D in_)⟩
  have dk := Zi aP bH
  refine l_' (.bool false) (Zbl Tryz.prog .eql 39 (.tmp 15) (.const .nilIface) (.iface dt dF) .nilIface) (Zfd (by kernel_rfl)) (qs_ 1 (Za (bo _ _ ?_)))
  refine Zh (Zf ?_)
  refine br_ [.bool false] ?_
  obtain rfl := oi_ dk
  exact ⟨rfl, (fs_ e ((f0_ e).extR V) D in_)⟩
 have bL := ZM aO bD
 refine Zg (cP _ _ (sq_ fun cH => sq_ fun bp => g_' (qs_ 1 ?_)))
 have ay := ((al.ext V).fr D dn_)
 rcases (ay).cases with ⟨an, rfl⟩ | ⟨an, ag, ah, rfl⟩
 ·have dn := Ze an bL
  refine qs_ 1 (Za (bp _ _ ?_))
  refine wb_ true (fun _ => ?_) fun h => by cases h
  refine sn_ ?_
  refine Zh (Zf ?_)
  refine br_ [.bool false] ?_
  obtain rfl := oi_ dn
  exact ⟨rfl, (fs_ e ((f0_ e).extR V) D in_)⟩
 have dp := Zi an bL
 refine l_' (.bool false) (Zbl Tryz.prog .eql 39 (.tmp 17) (.const .nilIface) (.iface ag ah) .nilIface) (Zfd (by kernel_rfl)) (Za (bp _ _ ?_))
 refine wb_ false (fun h => by cases h) fun _ => ?_
 refine Zg (cH _ _ (sn_ (sq_ fun cI => sq_ fun cJ => g_' (qs_ 1 ?_))))
 have aX := (aG.frS D dn_)
 refine lr_ 44 1 (ap) aX ?_
 have bS := (bQ.fr D dn_)
 refine bS.ln_ 44 (qs_ 1 (Za (cJ _ _ ?_)))
 obtain ⟨bW, cp, aV⟩ := bs_ dp
 refine ZC (fun α aH => ∃ aF, bW = Sum.inr aF /\ ∃ (az : Value), Has α [(0, .iface ag ah), (3, pt_ b2 0), (5, az)] /\ FrS [] aY aH /\ Ev 48 82 aH az aF aM) (fun _ cK => ?_) (fun α aH hM => ?_)
 ·refine Zl ?_
  obtain ⟨bz, cj⟩ := Zt.1 cp
  refine ZI (fun n α aI => ∃ (O : Int), ∃ (Z : Er), ∃ (aq : Value), ZO (fun zz_ => Zbq U zz_.1 zz_.2) n (O, Z) = some bW /\ Has α [(0, .iface ag ah), (3, pt_ b2 0), (5, aq), (21, ap), (22, i_ (U.length : Int)), (23, i_ O)] /\ FrS [] aY aI /\ Ev 48 82 aI aq Z aM) bz ⟨0, aj, (.iface ag ah), cj, ha_, (fr_ D.wf), ay⟩ ?_
  rintro bz α aI ⟨O, Z, aq, ch, bg, ac, aU⟩ dT cL
  obtain ⟨cZ, dI, rfl, ax, aE⟩ := Zx ch
  obtain ⟨β, rfl⟩ := Zk bg
  clear bg
  replace ax : Zbq U O Z = some dI := ax
  unfold Zbq at ax
  refine sn_ (sq_ fun cM => ?_)
  refine wc_ (O < (U.length : Int)) (fun au => ?_) fun au => ?_
  ·have dq := Ze au ax
   refine Zg (cM _ _ (sq_ fun cN => Zl (sq_ fun cO => g_' ?_)))
   obtain ⟨a_, bM⟩ := Zb dq
   have bT := (bS.fr ac dn_)
   refine bT.ix_ 44 a_ au (le_ 81 0 (.agg #[i_ ((gt U O).1), i_ ((gt U O).2)]) bT a_ au ?_)
   refine rk_ ac.wf [i_ 0, i_ 0] fun dV dO ai av bN => ?_
   obtain ⟨dP, c0, af, dr⟩ := ra_ 81 0 ai.wf bN [i_ ((gt U O).1), i_ ((gt U O).2)] [i_ ((gt U O).1), i_ ((gt U O).2)]
   refine ek_ c0 (Za (cO _ _ (sq_ fun cQ => g_' ?_)))
   refine rk_ af.wf [.pointer none] fun a6 dQ ak aD bO => ?_
   refine Za (cQ _ _ (sq_ fun cS => sq_ fun bq => ?_))
   refine ZR [0, 1, 2, 3, 4, 5, 6, 7, 8, 9, 10, 11, 12, 13, 14, 15] (by kernel_rfl) ?_
   refine es_ 2 ?_
   by_cases aC : Er.isAt Z = true
   ·have bP := Ze aC bM
    have bs := (t_ (t_ (t_ (t_ V.n D.n) ac.n) ai.n) af.n)
    have bY := (aD.djn (al.lt.le bs))
    have bt := (t_ (t_ V.n D.n) ac.n)
    have bZ := (av.djn (al.lt.le bt))
    have du := (((aU.ext ai).fr af bZ).ext ak)
    refine ZkI 26 #[aq, .iface 84 (pt_ a6 0)] (by kernel_rfl) (Zjr ak.wf bO bY du aC) ?_
    rintro _ dR ⟨rfl, aL, aK, bU, -, dX, aW, bC, dE⟩
    refine ⟨ZL, ?_⟩
    refine es_ 2 (mr_ 82 0 (pt_ aK 0) aW (es_ 3 (mr_ 82 0 (pt_ aK 0) aW (es_ 2 (mr_ 81 0 (.agg #[i_ (Er.fk Z), i_ (Er.fi Z)]) bC ?_)))))
    have b5 := (aD.djn (bN.ltF.le af.n))
    have dv := ((dr.ext ak).frS aL b5)
    refine mr_ 81 0 (.agg #[i_ ((gt U O).1), i_ ((gt U O).2)]) dv (m_' (.bool (!decide ((Er.fk Z) = ((gt U O).1) /\ (Er.fi Z) = ((gt U O).2)))) (Zbl Tryz.prog .neq 81 (.tmp 39) (.tmp 40) (.agg #[i_ (Er.fk Z), i_ (Er.fi Z)]) (.agg #[i_ ((gt U O).1), i_ ((gt U O).2)])) (ZkJ _ _ (Er.fk Z) (Er.fi Z) ((gt U O).1) ((gt U O).2)) (es_ 1 ?_))
    refine ZK ?_
    refine bq _ _ ?_
    refine Zdi ((Er.fk Z) = ((gt U O).1) /\ (Er.fi Z) = ((gt U O).2)) (by kernel_rfl) rfl (fun aN => ?_) (fun aN => ?_)
    ·have c3 := Zi aN bP
     refine sn_ ?_
     refine Zh (Zf (ZD (Zf (Zf (ZD (Zf (Zf ?_)))))))
     obtain ⟨d3, bi, cr⟩ := map_some c3
     subst cr
     obtain rfl := Zv aE
     have ck := elim_inl aV
     rw [ck] at bi
     refine br_ [.bool false] ?_
     obtain rfl := oi_ bi
     exact ⟨rfl, (fs_ e ((fs_ e ((fs_ e (fs_ e ((f0_ e).extR V) D in_) ac in_).extR ai) af (av.fresh bt)).extR ak) aL (aD.fresh bs))⟩
    have c4 := Ze aN bP
    refine Zg (cS _ _ (g_' (lr_ 82 0 (pt_ aK 0) aW (qs_ 2 (lr_ 39 2 (bU) bC (qs_ 1 (Za (cN _ _ (g_' ?_)))))))))
    obtain ⟨ce, c5⟩ := Zb c4
    refine w_' ((O + 1)) (Zo (by have := ce; omega)) (qs_ 1 (Za ?_))
    have cT := (t_ (t_ ac.n ai.n) af.n)
    obtain rfl := oi_ c5
    exact cL cZ _ _ lt_ ⟨(O + 1), (Er.fe Z), (bU), aE, ha_, (fs_ D.wf ((fs_ D.wf ((fs_ D.wf (fr_ D.wf) ac in_).extR ai) af (av.fresh ac.n)).extR ak) aL (aD.fresh cT)), dE⟩
   have c6 := Zi aC bM
   have bu := (t_ (t_ V.n D.n) ac.n)
   have b6 := (av.djn (al.lt.le bu))
   have dw := (((aU.ext ai).fr af b6).ext ak)
   refine ZkI 26 #[aq, .iface 84 (pt_ a6 0)] (by kernel_rfl) (ZjD bO dw aC) ?_
   rintro _ _ ⟨rfl, rfl⟩
   refine ⟨ZL, ?_⟩
   refine es_ 13 ?_
   refine ZK ?_
   refine bq _ _ ?_
   refine wb_ true (fun _ => ?_) fun h => by cases h
   refine sn_ ?_
   refine Zh (Zf (ZD (Zf (Zf (ZD (Zf (Zf ?_)))))))
   obtain ⟨d4, bj, cu⟩ := map_some c6
   subst cu
   obtain rfl := Zv aE
   have cm := elim_inl aV
   rw [cm] at bj
   refine br_ [.bool false] ?_
   obtain rfl := oi_ bj
   exact ⟨rfl, ((fs_ e ((fs_ e (fs_ e ((f0_ e).extR V) D in_) ac in_).extR ai) af (av.fresh bu)).extR ak)⟩
  have c7 := Zi au ax
  refine ZH (Zj (Zj (ZT ?_)))
  obtain rfl := oi_ c7
  obtain rfl := Zv aE
  exact cK _ _ ⟨_, rfl, (aq), ha_, (fs_ D.wf (fr_ D.wf) ac in_), aU⟩
 obtain ⟨aF, rfl, az, bf, aa, br⟩ := hM
 have bE := elim_inr aV
 obtain ⟨β, rfl⟩ := Zk bf
 clear bf
 refine cI _ _ (sq_ fun cw => g_' ?_)
 refine rk_ aa.wf [.pointer none] fun a2 dJ Y bb bF => ?_
 refine Za (cw _ _ (sq_ fun cx => sq_ fun bm => g_' (qs_ 2 ?_)))
 by_cases aA : Er.isAt aF = true
 ·have c8 := Ze aA bE
  have bv := (t_ (t_ V.n D.n) aa.n)
  have b7 := (bb.djn (al.lt.le bv))
  have dx := (br.ext Y)
  refine Zgu 26 #[az, .iface 84 (pt_ a2 0)] (by kernel_rfl) (Zjr Y.wf bF b7 dx aA) ?_
  rintro _ dK ⟨rfl, ca, dU, d2, -, dY, dZ, d0, d5⟩
  refine Za (bm _ _ ?_)
  refine wb_ true (fun _ => ?_) fun h => by cases h
  refine sn_ ?_
  refine Zh (Zf ?_)
  refine br_ [.bool false] ?_
  obtain rfl := oi_ c8
  exact ⟨rfl, (fs_ e ((fs_ e (fs_ e ((f0_ e).extR V) D in_) aa in_).extR Y) ca (bb.fresh bv))⟩
 have c9 := Zi aA bE
 have dy := (br.ext Y)
 refine Zgu 26 #[az, .iface 84 (pt_ a2 0)] (by kernel_rfl) (ZjD bF dy aA) ?_
 rintro _ _ ⟨rfl, rfl⟩
 refine Za (bm _ _ ?_)
 refine wb_ false (fun h => by cases h) fun _ => ?_
 refine Zg (cx _ _ (sq_ fun cy => g_' ?_))
 refine rk_ Y.wf [i_ 0] fun aJ bX ab ao bG => ?_
 refine Za (cy _ _ (sq_ fun cz => sq_ fun cA => ?_))
 obtain ⟨bA, bl, bI⟩ := bs_ c9
 refine ZC (fun α am => Has α [(0, .iface ag ah), (3, pt_ b2 0), (60, .bool bA)] /\ FrS [aJ] bX am) (fun _ bn => ?_) (fun α am hM => ?_)
 ·refine g_' (qs_ 2 ?_)
  by_cases aB : (Er.num aj).isSome = true
  ·have c_ := Ze aB bl
   have dz := (((ay.fr aa dn_).ext Y).ext ab)
   refine Zgu 26 #[.iface ag ah, .iface 87 (pt_ aJ 0)] (by kernel_rfl) (Znn ab.wf bG dz an aB) ?_
   rintro _ dL ⟨rfl, a7, da⟩
   refine qs_ 2 (lr_ 48 0 (i_ ((Er.num aj).getD 0)) da (qs_ 1 ?_))
   have cU := (t_ (t_ D.n aa.n) Y.n)
   have b8 := (ao.djn (aG.ltF.le cU))
   have dA := ((((aX.frS aa dn_).ext Y).ext ab).frS a7 b8)
   refine lr_ 3 0 (i_ ae) dA (qs_ 2 (Za ?_))
   obtain rfl := oi_ c_
   exact bn _ _ ⟨ha_, (fs_ ab.wf (fr_ ab.wf) a7 ir_)⟩
  have db := Zi aB bl
  have dB := (((ay.fr aa dn_).ext Y).ext ab)
  refine Zgu 26 #[.iface ag ah, .iface 87 (pt_ aJ 0)] (by kernel_rfl) (Znk ab.wf bG dB an aB) ?_
  rintro _ dM ⟨rfl, cc, d1⟩
  refine qs_ 7 (Za ?_)
  obtain rfl := oi_ db
  exact bn _ _ ⟨ha_, (fs_ ab.wf (fr_ ab.wf) cc ir_)⟩
 obtain ⟨bc, ar⟩ := hM
 obtain ⟨β, rfl⟩ := Zk bc
 clear bc
 refine cA _ _ ?_
 refine wb_ (bA) (fun aQ => ?_) fun aQ => ?_
 ·have dc := Ze aQ bI
  refine sn_ ?_
  refine Zh (Zf ?_)
  refine br_ [.bool false] ?_
  have cV := (t_ (t_ (t_ V.n D.n) aa.n) Y.n)
  obtain rfl := oi_ dc
  exact ⟨rfl, (fs_ e (((fs_ e (fs_ e ((f0_ e).extR V) D in_) aa in_).extR Y).extR ab) ar (ao.fresh cV))⟩
 have dd := ZM aQ bI
 refine Zg (cz _ _ (sq_ fun cB => sn_ ?_))
 obtain ⟨bV, co, bJ⟩ := bs_ dd
 refine ZC (fun α aZ => ∃ bB, bV = Sum.inr bB /\ Has α [] /\ am = aZ) (fun _ cC => ?_) (fun α aZ hM => ?_)
 ·refine Zl ?_
  obtain ⟨bw, ci⟩ := Zt.1 co
  refine ZI (fun n α a1 => ∃ (ad : Int), ZO (fun zz_ => ZbA aj ae zz_) n ad = some bV /\ Has α [(0, .iface ag ah), (3, pt_ b2 0), (11, i_ ad)] /\ am = a1) bw ⟨1, ci, ha_, rfl⟩ ?_
  rintro bw α a1 ⟨ad, cg, be, rfl⟩ dS cD
  obtain ⟨cW, dH, rfl, aw, aT⟩ := Zx cg
  obtain ⟨β, rfl⟩ := Zk be
  clear be
  replace aw : ZbA aj ae ad = some dH := aw
  unfold ZbA at aw
  refine sq_ fun cE => sn_ ?_
  refine wc_ (ad ≤ 20) (fun aR => ?_) fun aR => ?_
  ·have bK := Ze aR aw
   refine Zg (cE _ _ (sq_ fun cF => Zl (sq_ fun cG => ?_)))
   refine ZR [0, 1, 2, 4, 5, 6, 7, 3, 8] (by kernel_rfl) ?_
   refine es_ 5 ?_
   have cX := (t_ (t_ D.n aa.n) Y.n)
   have b9 := (ao.djn (aG.ltF.le cX))
   have bR := ((((aX.frS aa dn_).ext Y).ext ab).frS ar b9)
   refine Zcz (i_ ae) (x := aL_ 3 (pt_ b2 0) am) (by kernel_rfl) (bR.l_) ?_
   refine es_ 1 ?_
   have bx := (t_ (t_ (t_ V.n D.n) aa.n) Y.n)
   have b_ := (ao.djn (al.lt.le bx))
   have dD := ((((ay.fr aa dn_).ext Y).ext ab).fr ar b_)
   refine ZkI 27 #[.iface ag ah, .iface 48 (i_ ad)] (by kernel_rfl) (a_isN dD an) ?_
   rintro _ _ ⟨rfl, rfl⟩
   refine ⟨ZaP (y := aL_ 3 (pt_ b2 0) am) (by kernel_rfl) (bR.l_) (ZL), ?_⟩
   refine es_ 1 ?_
   refine ZK ?_
   refine cG _ _ ?_
   refine Zdi ((decide (Er.num aj = some ad)) = (decide (ad = ae))) (by kernel_rfl) rfl (fun aS => ?_) (fun aS => ?_)
   ·have df := Zi aS bK
    refine sn_ ?_
    refine Zh (ZD (Zf (Zf (ZD (Zf (Zf ?_))))))
    obtain ⟨d6, bk, cv⟩ := map_some df
    subst cv
    obtain rfl := Zv aT
    have cn := elim_inl bJ
    rw [cn] at bk
    refine br_ [.bool false] ?_
    obtain rfl := oi_ bk
    exact ⟨rfl, (fs_ e (((fs_ e (fs_ e ((f0_ e).extR V) D in_) aa in_).extR Y).extR ab) ar (ao.fresh bx))⟩
   have dg := Ze aS bK
   refine Zg (cF _ _ (g_' (qs_ 1 ?_)))
   obtain ⟨cf, dh⟩ := Zb dg
   refine w_' ((ad + 1)) (Zo cf) (qs_ 1 (Za ?_))
   obtain rfl := oi_ dh
   exact cD cW _ _ lt_ ⟨(ad + 1), aT, ha_, rfl⟩
  have di := Zi aR aw
  refine ZH (Zj (Zj (ZT ?_)))
  obtain rfl := oi_ di
  obtain rfl := Zv aT
  exact cC _ _ ⟨_, rfl, trivial, rfl⟩
 obtain ⟨bB, rfl, bd, rfl⟩ := hM
 have dm := elim_inr bJ
 obtain ⟨β, rfl⟩ := Zk bd
 clear bd
 refine cB _ _ (sn_ ?_)
 refine Zh ?_
 refine br_ [.bool true] ?_
 have cY := (t_ (t_ (t_ V.n D.n) aa.n) Y.n)
 obtain rfl := oi_ dm
 exact ⟨rfl, (fs_ e (((fs_ e (fs_ e ((f0_ e).extR V) D in_) aa in_).extR Y).extR ab) ar (ao.fresh cY))⟩
theorem Zei {H : AH} {e : Int} {r : Int}
    (O : WF H) (D : ZbT e = some r) :
    ACalls Tryz.prog 72 #[i_ e] H fun v H' => v = i_ r /\ H = H' := by
 refine ab_ Tryz.func72 ?_
 unfold ZbT at D
 refine sn_ (sq_ fun k2 => g_' (qs_ 1 (l_' (i_ (max e 0)) (Zfr Tryz.prog [i_ e, i_ 0]) (Ze8 _ _) (l_' (i_ (min (max e 0) 1048576)) (ZgF Tryz.prog [i_ (max e 0), i_ 1048576]) (Zht _ _) (qs_ 1 (Za (k2 _ _ ?_)))))))
 refine Zh ?_
 refine br_ [i_ (min (max e 0) 1048576)] ?_
 obtain rfl := oi_ D
 exact ⟨rfl, rfl⟩
theorem ZfT {H : AH} {e : Int} {D : Int} {V : Int} {O : Int} {U : Int} {r : Int × Int}
    (ac : WF H) (ab : Zcx e D V O U = some r) :
    ACalls Tryz.prog 52 #[.agg #[i_ e, i_ D, i_ V, i_ O, i_ U]] H fun v H' => v = .tuple #[i_ r.1, i_ r.2] /\ FrS [] H H' := by
 refine ab_ Tryz.func52 ?_
 unfold Zcx at ab
 refine sq_ fun k1 => g_' ?_
 refine rl_ ac [i_ e, i_ D, i_ V, i_ O, i_ U] fun b2 aa Y ak Z => ?_
 refine qs_ 2 (Za (k1 _ _ (sq_ fun af => ?_)))
 refine ZR [0, 1, 3, 4, 2, 5, 6, 7] (by kernel_rfl) ?_
 refine es_ 1 (mr_ 3 0 (i_ e) Z (es_ 1 ?_))
 refine Zcz (i_ D) (x := aL_ 3 (pt_ b2 1) aa) (by kernel_rfl) (Z.l_) ?_
 obtain ⟨aj, ad, ag⟩ := bs_ ab
 refine dk_ (Zei Y.wf ad) ?_
 rintro _ _ ⟨rfl, rfl⟩
 refine ⟨ZaP (y := aL_ 3 (pt_ b2 1) aa) (by kernel_rfl) (Z.l_) (ZL), ?_⟩
 obtain ⟨ai, ae, ah⟩ := bs_ ag
 refine dk_ (Zei Y.wf ae) ?_
 rintro _ _ ⟨rfl, rfl⟩
 refine ⟨Zap (by kernel_rfl) (ZL), ?_⟩
 refine es_ 2 ?_
 refine ZK ?_
 refine af _ _ ?_
 refine Zh ?_
 refine br_ [i_ aj, i_ ai] ?_
 obtain rfl := oi_ ah
 exact ⟨rfl, ((f0_ ac).extR Y)⟩
theorem ZeK {H : AH} {aa : Value} {a1 : Fp} {l : List (Int × Int × Int)} {O : Int} {ad : Int} {ac : Int} {r : List (Int × Int × Int)}
    (af : WF H) (an : Sq Zc 3 H aa l a1) (aE : ZbJ l O ad ac = some r) :
    ACalls Tryz.prog 57 #[aa, .agg #[i_ O, .int .u64 ad, i_ ac]] H fun v H' => ∃ (aN : Value) (aw : Fp), v = aN /\ FrS [] H H' /\ Ow Zc 3 H' aN r aw /\ Inn [] H aw := by
 refine ab_ Tryz.func57 ?_
 unfold ZbJ at aE
 refine sq_ fun bh => g_' ?_
 refine rl_ af [i_ O, .int .u64 ad, i_ ac] fun av au D bU aL => ?_
 refine qs_ 1 (Za (bh _ _ (sn_ (sq_ fun bd => ?_))))
 obtain ⟨ab, bc, bw⟩ := bs_ aE
 refine ZC (fun α aq => Has α [(0, aa), (3, pt_ av 0), (5, i_ ab)] /\ au = aq) (fun _ aH => ?_) (fun α aq hM => ?_)
 ·refine Zl ?_
  obtain ⟨aK, bb⟩ := Zt.1 bc
  refine ZI (fun n α ar => ∃ (e : Int), ZO (fun zz_ => Zbt l O zz_) n e = some ab /\ Has α [(0, aa), (3, pt_ av 0), (5, i_ e)] /\ au = ar) aK ⟨0, bb, ha_, rfl⟩ ?_
  rintro aK α ar ⟨e, ba, az, rfl⟩ bO be
  obtain ⟨bm, bJ, rfl, ae, ao⟩ := Zx ba
  obtain ⟨β, rfl⟩ := Zk az
  clear az
  replace ae : Zbt l O e = some bJ := ae
  unfold Zbt at ae
  refine sq_ fun bf => sq_ fun aI => ?_
  refine ZR [0, 1, 2, 3, 4, 5, 6, 7, 8, 9, 10, 11, 12, 13] (by kernel_rfl) ?_
  refine es_ 2 ?_
  have ai := (an.ext D)
  refine ai.mn_ 94 ?_
  refine db_ (e < (l.length : Int)) (fun Z => ?_) fun Z => ?_
  ·have bx := Ze Z ae
   refine es_ 3 ?_
   obtain ⟨al, aM⟩ := Zb bx
   refine ai.mx_ 94 al Z (m_' (elp aa 3 e.toNat 0) (Zy Tryz.prog 99 (elp aa 3 e.toNat 0) 0) (Sq.fldq (d := 0) ai al Z (by kernel_rfl)) (me_ 3 0 (i_ ((gt l e).1)) ai al Z (es_ 1 (mr_ 3 0 (i_ O) aL (es_ 2 ?_)))))
   refine ZK ?_
   refine aI _ _ ?_
   refine wc_ (((gt l e).1) < O) (fun am => ?_) fun am => ?_
   ·have bz := Ze am aM
    refine Zg (bf _ _ (Zl (g_' (qs_ 1 ?_))))
    obtain ⟨a6, bA⟩ := Zb bz
    refine w_' ((e + 1)) (Zo (by have := a6; omega)) (qs_ 1 (Za ?_))
    obtain rfl := oi_ bA
    exact be bm _ _ lt_ ⟨(e + 1), ao, ha_, rfl⟩
   have bB := Zi am aM
   refine ZH (Zj (Zj (ZT ?_)))
   obtain rfl := oi_ bB
   obtain rfl := Zv ao
   exact aH _ _ ⟨ha_, rfl⟩
  have bC := Zi Z ae
  refine es_ 10 ?_
  refine ZK ?_
  refine aI _ _ ?_
  refine wb_ false (fun h => by cases h) fun _ => ?_
  refine ZH (Zj (Zj (ZT ?_)))
  obtain rfl := oi_ bC
  obtain rfl := Zv ao
  exact aH _ _ ⟨ha_, rfl⟩
 obtain ⟨ay, rfl⟩ := hM
 obtain ⟨β, rfl⟩ := Zk ay
 clear ay
 refine bd _ _ (sn_ (sq_ fun bg => g_' (qs_ 3 ?_)))
 obtain ⟨Y, bD⟩ := Zb bw
 have aO := (an.ext D)
 obtain ⟨bY, br, aG⟩ := Sq.cut (P := Tryz.prog) aO (t := 94) (by kernel_rfl) (lo := none) (hi := (some (i_ ab))) (l := 0) (r := ab.toNat) (rfl) (ZcM _ (by have := Y; omega)) (by have := Y; omega) (by have := Y; omega)
 obtain ⟨aQ, bn, aU, rfl⟩ := aG.form
 refine Zbi (.slice aQ bn aU) (by kernel_rfl) br ?_
 obtain ⟨a7, bE⟩ := Zb bD
 obtain ⟨bZ, bL, bR, bs, U, aB, ah⟩ := Ow.append (P := Tryz.prog) 24 D.wf (Ow.nil (enc := Zc) (sz := 3) (by decide)) aG (fun _ _ => rfl) (at_ := #[94, 94]) rfl rfl (by kernel_rfl) (by kernel_rfl) (by decide) (by have := a7; first | omega | (simp only [List.length_cons, List.length_nil] at this ⊢; omega) | (simp at this ⊢; omega))
 obtain ⟨aR, bo, aV, rfl⟩ := aB.form
 refine ZaL (.slice aR bo aV) (by kernel_rfl) (bs) ?_
 refine qs_ 1 (Za (bg _ _ (sq_ fun bi => g_' (qs_ 1 ?_))))
 have bH := (aL.frS U dn_)
 refine lr_ 99 0 (.agg #[i_ O, .int .u64 ad, i_ ac]) bH ?_
 refine Zbo (enc := Zc) (sz := 3) U.wf [(O, ad, ac)] 1 (by decide) (fun _ _ => rfl) (fun _ _ => rfl) rfl (by kernel_rfl) fun b5 bS bM V bV aC => ?_
 obtain ⟨bP, bW, bQ, rfl⟩ := aC.form
 have bI := (aB.ext V)
 obtain ⟨a8, bF⟩ := Zb bE
 obtain ⟨b6, bN, bT, bt, ag, aD, ax⟩ := Ow.append (P := Tryz.prog) 24 V.wf bI aC.sq (fun _ _ => rfl) (at_ := #[94, 94]) rfl rfl (by kernel_rfl) (by kernel_rfl) (by decide) (by have := a8; first | omega | (simp only [List.length_cons, List.length_nil] at this ⊢; omega) | (simp at this ⊢; omega))
 obtain ⟨aS, bp, aW, rfl⟩ := aD.form
 refine ZaL (.slice aS bp aW) (by kernel_rfl) (bt) ?_
 refine qs_ 1 (Za (bi _ _ (sq_ fun bj => g_' (qs_ 3 ?_))))
 have aX := (ah.djn (an.lt.le D.n))
 have bG := (((aO.fr U dn_).ext V).fr ag aX)
 obtain ⟨b7, bu, aF⟩ := Sq.cut (P := Tryz.prog) bG (t := 94) (by kernel_rfl) (lo := (some (i_ ab))) (hi := none) (l := ab.toNat) (r := l.length) (ZcM _ (by have := Y; omega)) (rfl) (by have := Y; omega) (by have := Y; omega)
 obtain ⟨aP, bk, aT, rfl⟩ := aF.form
 refine Zbi (.slice aP bk aT) (by kernel_rfl) bu ?_
 obtain ⟨a2, bv⟩ := Zb bF
 obtain ⟨bX, bK, aZ, bq, aY, aA, a_⟩ := Ow.append (P := Tryz.prog) 24 ag.wf aD aF (fun _ _ => rfl) (at_ := #[94, 94]) rfl rfl (by kernel_rfl) (by kernel_rfl) (by decide) (by have := a2; first | omega | (simp only [List.length_cons, List.length_nil] at this ⊢; omega) | (simp at this ⊢; omega))
 obtain ⟨aj, ap, ak, rfl⟩ := aA.form
 refine ZaL (.slice aj ap ak) (by kernel_rfl) (bq) ?_
 refine qs_ 1 (Za (bj _ _ ?_))
 refine Zh ?_
 refine br_ [.slice aj ap ak] ?_
 have aJ := (t_ (t_ D.n U.n) V.n)
 have bl := (t_ (t_ (t_ D.n U.n) V.n) ag.n)
 obtain rfl := oi_ bv
 exact ⟨(.slice aj ap ak), aZ, rfl, (fs_ af (fs_ af ((fs_ af ((f0_ af).extR D) U in_).extR V) ag (ah.fresh D.n)) aY (Inn.trans (ah.fresh D.n) aJ ax)), aA, (Inn.trans (Inn.trans (ah.fresh D.n) aJ ax) bl a_)⟩
theorem Zg4 {H : AH} {al : Value} {aV : Fp} {ac : Value} {aW : Fp} {aq : List (Bool)} {Arcs : List (Int × Int × Int × Int)} {Z : Int} {r : List (Int × Int × Int)}
    (ap : WF H) (aZ : Sq Zaz 1 H al aq aV) (ay : Sq Zn 4 H ac Arcs aW) (aB : ZcF aq Arcs Z = some r) :
    ACalls Tryz.prog 53 #[.agg #[al, ac], i_ Z] H fun v H' => ∃ (aN : Value) (aw : Fp), v = aN /\ FrS [] H H' /\ Ow Zc 3 H' aN r aw /\ Inn [] H aw := by
 refine ab_ Tryz.func53 ?_
 unfold ZcF at aB
 refine sq_ fun bf => g_' ?_
 refine ZaK ap [al, ac] (Zu (aZ.one1) (Zu (ay.one1) (Z1))) (by kernel_rfl) fun bE af D bF bk => ?_
 refine qs_ 1 (Za (bf _ _ (sn_ (sq_ fun ba => sq_ fun bb => g_' (qs_ 1 (lr_ 32 1 (ac) bk ?_))))))
 have aO := (ay.ext D)
 refine aO.ln_ 32 (qs_ 1 (Za (bb _ _ ?_)))
 obtain ⟨aL, a6, bl⟩ := bs_ aB
 refine ZC (fun α ai => ∃ (an : Value) (f25 : Fp), Has α [(5, an)] /\ FrS [] af ai /\ Ow Zc 3 ai an aL f25 /\ Inn [] af f25) (fun _ bc => ?_) (fun α ai hM => ?_)
 ·refine Zl ?_
  obtain ⟨aH, a2⟩ := Zt.1 a6
  refine ZI (fun n α aj => ∃ (e : Int), ∃ (ae : List (Int × Int × Int)), ∃ (ao : Value), ∃ (aa : Fp), ZO (fun zz_ => Zb0 Arcs Z zz_.1 zz_.2) n (e, ae) = some aL /\ Has α [(1, i_ Z), (5, ao), (9, ac), (10, i_ (Arcs.length : Int)), (11, i_ e)] /\ FrS [] af aj /\ Ow Zc 3 aj ao ae aa /\ Inn [] af aa) aH ⟨0, [], (.slice none 0 0), [], a2, ha_, (fr_ D.wf), (Ow.nil (by decide)), in_⟩ ?_
  rintro aH α aj ⟨e, ae, ao, aa, a1, aA, O, Y, aC⟩ bC aD
  obtain ⟨aI, bx, rfl, ad, am⟩ := Zx a1
  obtain ⟨β, rfl⟩ := Zk aA
  clear aA
  replace ad : Zb0 Arcs Z e ae = some bx := ad
  unfold Zb0 at ad
  obtain ⟨a45, aJ, au, rfl⟩ := Y.form
  refine sn_ (sq_ fun bd => ?_)
  refine wc_ (e < (Arcs.length : Int)) (fun ab => ?_) fun ab => ?_
  ·have bm := Ze ab ad
   refine Zg (bd _ _ (sq_ fun aE => Zl (sq_ fun be => g_' ?_)))
   obtain ⟨ax, aM⟩ := Zb bm
   have aP := (aO.fr O dn_)
   refine aP.ix_ 32 ax ab (le_ 75 0 (.agg #[i_ ((gt Arcs e).1), i_ ((gt Arcs e).2.1), .int .u64 ((gt Arcs e).2.2.1), i_ ((gt Arcs e).2.2.2)]) aP ax ab ?_)
   refine rk_ O.wf [i_ 0, i_ 0, .int .u64 0, i_ 0] fun bD bz U ag bn => ?_
   obtain ⟨bA, bj, V, ah⟩ := ra_ 75 0 U.wf bn [i_ ((gt Arcs e).1), i_ ((gt Arcs e).2.1), .int .u64 ((gt Arcs e).2.2.1), i_ ((gt Arcs e).2.2.2)] [i_ ((gt Arcs e).1), i_ ((gt Arcs e).2.1), .int .u64 ((gt Arcs e).2.2.1), i_ ((gt Arcs e).2.2.2)]
   refine ek_ bj (Za (be _ _ (sq_ fun bg => g_' (qs_ 1 (lr_ 3 1 (i_ ((gt Arcs e).2.1)) ah (qs_ 2 (Za (bg _ _ ?_))))))))
   refine wc_ (((gt Arcs e).2.1) = Z) (fun ak => ?_) fun ak => ?_
   ·have bo := Ze ak aM
    refine g_' (qs_ 2 (lr_ 3 0 (i_ ((gt Arcs e).1)) ah (qs_ 1 (lr_ 61 2 (.int .u64 ((gt Arcs e).2.2.1)) ah (qs_ 1 (lr_ 3 3 (i_ ((gt Arcs e).2.2.2)) ah (qs_ 1 ?_)))))))
    have bu := ((Y.ext U).fr V (ag.djn Y.lt))
    obtain ⟨bw, a7, bp⟩ := bs_ bo
    refine ck_ (ZeK V.wf bu.sq a7) ?_
    rintro bG bB ⟨_, aU, rfl, aT, aG, a_⟩
    obtain ⟨aQ, bh, aR, rfl⟩ := aG.form
    refine qs_ 1 (Za (aE _ _ (g_' ?_)))
    obtain ⟨aX, bq⟩ := Zb bp
    refine w_' ((e + 1)) (Zo (by have := aX; omega)) (qs_ 1 (Za ?_))
    have bi := (t_ (t_ O.n U.n) V.n)
    obtain rfl := oi_ bq
    exact aD aI _ _ lt_ ⟨(e + 1), bw, (.slice aQ bh aR), aU, am, ha_, (fs_ D.wf (fs_ D.wf ((fs_ D.wf (fr_ D.wf) O in_).extR U) V (ag.fresh O.n)) aT in_), aG, (a_.fresh bi)⟩
   have br := Zi ak aM
   refine Zg (aE _ _ (g_' ?_))
   obtain ⟨aY, bs⟩ := Zb br
   refine w_' ((e + 1)) (Zo (by have := aY; omega)) (qs_ 1 (Za ?_))
   have bv := ((Y.ext U).fr V (ag.djn Y.lt))
   obtain rfl := oi_ bs
   exact aD aI _ _ lt_ ⟨(e + 1), ae, (.slice a45 aJ au), aa, am, ha_, (fs_ D.wf ((fs_ D.wf (fr_ D.wf) O in_).extR U) V (ag.fresh O.n)), bv, (aC.fresh (Nat.le_refl _))⟩
  have bt := Zi ab ad
  refine ZH (Zj (Zj (ZT ?_)))
  obtain rfl := oi_ bt
  obtain rfl := Zv am
  exact bc _ _ ⟨(.slice a45 aJ au), aa, ha_, (fs_ D.wf (fr_ D.wf) O in_), Y, (aC.fresh (Nat.le_refl _))⟩
 obtain ⟨an, f25, az, aS, aF, a8⟩ := hM
 obtain ⟨β, rfl⟩ := Zk az
 clear az
 obtain ⟨ar, aK, av, rfl⟩ := aF.form
 refine ba _ _ (sn_ ?_)
 refine Zh ?_
 refine br_ [.slice ar aK av] ?_
 obtain rfl := oi_ bl
 exact ⟨(.slice ar aK av), f25, rfl, (fs_ ap ((f0_ ap).extR D) aS in_), aF, (a8.fresh D.n)⟩
theorem ZdP {H : AH} {al : Value} {aV : Fp} {ac : Value} {aW : Fp} {aq : List (Bool)} {Arcs : List (Int × Int × Int × Int)} {Z : Int} {r : List (Int × Int × Int)}
    (ap : WF H) (aZ : Sq Zaz 1 H al aq aV) (ay : Sq Zn 4 H ac Arcs aW) (aB : ZaX aq Arcs Z = some r) :
    ACalls Tryz.prog 33 #[.agg #[al, ac], i_ Z] H fun v H' => ∃ (aN : Value) (aw : Fp), v = aN /\ FrS [] H H' /\ Ow Zc 3 H' aN r aw /\ Inn [] H aw := by
 refine ab_ Tryz.func33 ?_
 unfold ZaX at aB
 refine sq_ fun bf => g_' ?_
 refine ZaK ap [al, ac] (Zu (aZ.one1) (Zu (ay.one1) (Z1))) (by kernel_rfl) fun bE af D bF bk => ?_
 refine qs_ 1 (Za (bf _ _ (sn_ (sq_ fun ba => sq_ fun bb => g_' (qs_ 1 (lr_ 32 1 (ac) bk ?_))))))
 have aO := (ay.ext D)
 refine aO.ln_ 32 (qs_ 1 (Za (bb _ _ ?_)))
 obtain ⟨aL, a6, bl⟩ := bs_ aB
 refine ZC (fun α ai => ∃ (an : Value) (f25 : Fp), Has α [(5, an)] /\ FrS [] af ai /\ Ow Zc 3 ai an aL f25 /\ Inn [] af f25) (fun _ bc => ?_) (fun α ai hM => ?_)
 ·refine Zl ?_
  obtain ⟨aH, a2⟩ := Zt.1 a6
  refine ZI (fun n α aj => ∃ (e : Int), ∃ (ae : List (Int × Int × Int)), ∃ (ao : Value), ∃ (aa : Fp), ZO (fun zz_ => ZbH Arcs Z zz_.1 zz_.2) n (e, ae) = some aL /\ Has α [(1, i_ Z), (5, ao), (9, ac), (10, i_ (Arcs.length : Int)), (11, i_ e)] /\ FrS [] af aj /\ Ow Zc 3 aj ao ae aa /\ Inn [] af aa) aH ⟨0, [], (.slice none 0 0), [], a2, ha_, (fr_ D.wf), (Ow.nil (by decide)), in_⟩ ?_
  rintro aH α aj ⟨e, ae, ao, aa, a1, aA, O, Y, aC⟩ bC aD
  obtain ⟨aI, bx, rfl, ad, am⟩ := Zx a1
  obtain ⟨β, rfl⟩ := Zk aA
  clear aA
  replace ad : ZbH Arcs Z e ae = some bx := ad
  unfold ZbH at ad
  obtain ⟨a45, aJ, au, rfl⟩ := Y.form
  refine sn_ (sq_ fun bd => ?_)
  refine wc_ (e < (Arcs.length : Int)) (fun ab => ?_) fun ab => ?_
  ·have bm := Ze ab ad
   refine Zg (bd _ _ (sq_ fun aE => Zl (sq_ fun be => g_' ?_)))
   obtain ⟨ax, aM⟩ := Zb bm
   have aP := (aO.fr O dn_)
   refine aP.ix_ 32 ax ab (le_ 75 0 (.agg #[i_ ((gt Arcs e).1), i_ ((gt Arcs e).2.1), .int .u64 ((gt Arcs e).2.2.1), i_ ((gt Arcs e).2.2.2)]) aP ax ab ?_)
   refine rk_ O.wf [i_ 0, i_ 0, .int .u64 0, i_ 0] fun bD bz U ag bn => ?_
   obtain ⟨bA, bj, V, ah⟩ := ra_ 75 0 U.wf bn [i_ ((gt Arcs e).1), i_ ((gt Arcs e).2.1), .int .u64 ((gt Arcs e).2.2.1), i_ ((gt Arcs e).2.2.2)] [i_ ((gt Arcs e).1), i_ ((gt Arcs e).2.1), .int .u64 ((gt Arcs e).2.2.1), i_ ((gt Arcs e).2.2.2)]
   refine ek_ bj (Za (be _ _ (sq_ fun bg => g_' (qs_ 1 (lr_ 3 0 (i_ ((gt Arcs e).1)) ah (qs_ 2 (Za (bg _ _ ?_))))))))
   refine wc_ (((gt Arcs e).1) = Z) (fun ak => ?_) fun ak => ?_
   ·have bo := Ze ak aM
    refine g_' (qs_ 2 (lr_ 3 1 (i_ ((gt Arcs e).2.1)) ah (qs_ 1 (lr_ 61 2 (.int .u64 ((gt Arcs e).2.2.1)) ah (qs_ 1 (lr_ 3 3 (i_ ((gt Arcs e).2.2.2)) ah (qs_ 1 ?_)))))))
    have bu := ((Y.ext U).fr V (ag.djn Y.lt))
    obtain ⟨bw, a7, bp⟩ := bs_ bo
    refine ck_ (ZeK V.wf bu.sq a7) ?_
    rintro bG bB ⟨_, aU, rfl, aT, aG, a_⟩
    obtain ⟨aQ, bh, aR, rfl⟩ := aG.form
    refine qs_ 1 (Za (aE _ _ (g_' ?_)))
    obtain ⟨aX, bq⟩ := Zb bp
    refine w_' ((e + 1)) (Zo (by have := aX; omega)) (qs_ 1 (Za ?_))
    have bi := (t_ (t_ O.n U.n) V.n)
    obtain rfl := oi_ bq
    exact aD aI _ _ lt_ ⟨(e + 1), bw, (.slice aQ bh aR), aU, am, ha_, (fs_ D.wf (fs_ D.wf ((fs_ D.wf (fr_ D.wf) O in_).extR U) V (ag.fresh O.n)) aT in_), aG, (a_.fresh bi)⟩
   have br := Zi ak aM
   refine Zg (aE _ _ (g_' ?_))
   obtain ⟨aY, bs⟩ := Zb br
   refine w_' ((e + 1)) (Zo (by have := aY; omega)) (qs_ 1 (Za ?_))
   have bv := ((Y.ext U).fr V (ag.djn Y.lt))
   obtain rfl := oi_ bs
   exact aD aI _ _ lt_ ⟨(e + 1), ae, (.slice a45 aJ au), aa, am, ha_, (fs_ D.wf ((fs_ D.wf (fr_ D.wf) O in_).extR U) V (ag.fresh O.n)), bv, (aC.fresh (Nat.le_refl _))⟩
  have bt := Zi ab ad
  refine ZH (Zj (Zj (ZT ?_)))
  obtain rfl := oi_ bt
  obtain rfl := Zv am
  exact bc _ _ ⟨(.slice a45 aJ au), aa, ha_, (fs_ D.wf (fr_ D.wf) O in_), Y, (aC.fresh (Nat.le_refl _))⟩
 obtain ⟨an, f25, az, aS, aF, a8⟩ := hM
 obtain ⟨β, rfl⟩ := Zk az
 clear az
 obtain ⟨ar, aK, av, rfl⟩ := aF.form
 refine ba _ _ (sn_ ?_)
 refine Zh ?_
 refine br_ [.slice ar aK av] ?_
 obtain rfl := oi_ bl
 exact ⟨(.slice ar aK av), f25, rfl, (fs_ ap ((f0_ ap).extR D) aS in_), aF, (a8.fresh D.n)⟩
theorem Zgm {H : AH} {ao : Value} {bJ : Fp} {aB : Value} {bK : Fp} {aa : List (Bool)} {Arcs : List (Int × Int × Int × Int)} {skip : Int} {r : List (List (Int × Int))}
    (aV : WF H) (aK : Sq Zaz 1 H ao aa bJ) (aL : Sq Zn 4 H aB Arcs bK) (bg : Zcb aa Arcs skip = some r) :
    ACalls Tryz.prog 74 #[.agg #[ao, aB], i_ skip] H fun v H' => ∃ (bp : Value) (a1 : Fp), v = bp /\ FrS [] H H' /\ Nst (CR.sl Za0 2) H' bp r a1 /\ Inn [] H a1 := by
 refine ab_ Tryz.func74 ?_
 unfold Zcb at bg
 refine sq_ fun co => g_' ?_
 refine ZaK aV [ao, aB] (Zu (aK.one1) (Zu (aL.one1) (Z1))) (by kernel_rfl) fun aH c9 ad dn aT => ?_
 refine qs_ 1 (Za (co _ _ (sq_ fun cg => g_' (qs_ 1 (lr_ 31 0 (ao) aT ?_)))))
 have br := (aK.ext ad)
 refine br.ln_ 31 ?_
 obtain ⟨a6, cI⟩ := Zb bg
 refine Zm1 (t := 173) (m := 24) (l := (aa.length : Int)) (c := (aa.length : Int)) (enc := id) (sz := 1) ad.wf [.slice none 0 0] (by kernel_rfl) (by decide) a6.1 (Int.le_refl _) (by omega) (by have := a6; omega) (by kernel_rfl) fun dt aj al ab ap ag => ?_
 replace ag := Nst.zeros (C := (CR.sl Za0 2)) (x0 := ([] : List (Int × Int))) ag (fun _ => Zmx (Ow.nil (by decide)))
 obtain ⟨U, Z, V, rfl⟩ := ag.form
 have ag : Nst (CR.sl Za0 2) al (.slice U Z V) (List.replicate aa.length ([] : List (Int × Int))) aj := ag
 refine qs_ 1 (Za (cg _ _ (sq_ fun ch => sq_ fun ci => g_' (qs_ 1 (ag.ln_ 173 (qs_ 1 (Za (ci _ _ ?_))))))))
 obtain ⟨bn, b7, cQ⟩ := bs_ cI
 refine ZC (fun α aD => ∃ (ay : Fp), Has α [(5, .slice U Z V)] /\ FrS aj al aD /\ Nst (CR.sl Za0 2) aD (.slice U Z V) bn ay /\ Inn aj al ay) (fun _ cj => ?_) (fun α aD hM => ?_)
 ·refine Zl ?_
  obtain ⟨bl, bU⟩ := Zt.1 b7
  refine ZI (fun n α aE => ∃ (O : Int), ∃ (rows3 : List (List (Int × Int))), ∃ (f46 : Fp), ZO (fun zz_ => Zbg aa Arcs skip zz_.1 zz_.2) n (O, rows3) = some bn /\ Has α [(1, i_ skip), (2, pt_ aH 0), (5, .slice U Z V), (14, i_ ((List.replicate aa.length ([] : List (Int × Int))).length : Int)), (15, i_ O)] /\ FrS aj al aE /\ Nst (CR.sl Za0 2) aE (.slice U Z V) rows3 f46 /\ Inn aj al f46) bl ⟨0, (List.replicate aa.length ([] : List (Int × Int))), aj, bU, ha_, (fr_ ab.wf), ag, ir_⟩ ?_
  rintro bl α aE ⟨O, rows3, f46, bR, ba, af, aP, aO⟩ da ck
  obtain ⟨cz, c6, rfl, ar, bf⟩ := Zx bR
  obtain ⟨β, rfl⟩ := Zk ba
  clear ba
  replace ar : Zbg aa Arcs skip O rows3 = some c6 := ar
  unfold Zbg at ar
  refine sn_ (sq_ fun cm => ?_)
  refine wc_ (O < ((List.replicate aa.length ([] : List (Int × Int))).length : Int)) (fun aJ => ?_) fun aJ => ?_
  ·have cR := Ze aJ ar
   refine Zg (cm _ _ (sq_ fun cn => Zl (sn_ (sq_ fun cp => g_' ?_))))
   have cZ := ((aT.ext ab).frS af (ap.djn aT.ltF))
   refine lr_ 34 0 (.agg #[ao, aB]) cZ (qs_ 1 ?_)
   have bE := (ap.djn (aK.lt.le ad.n))
   have c0 := ((br.ext ab).fr af bE)
   have bF := (ap.djn (aL.lt.le ad.n))
   have c3 := (((aL.ext ad).ext ab).fr af bF)
   obtain ⟨D, b9, cS⟩ := bs_ cR
   refine ck_ (ZdP af.wf c0 c3 b9) ?_
   rintro dv aw ⟨_, dm, rfl, Y, aQ, ca⟩
   obtain ⟨a77, cA, bB, rfl⟩ := aQ.form
   refine aQ.sq.ln_ 94 (qs_ 1 (Za (cp _ _ ?_)))
   obtain ⟨aS, b8, cT⟩ := bs_ cS
   refine ZC (fun α aF => ∃ (az : Fp), Has α [(1, i_ skip), (2, pt_ aH 0), (5, .slice U Z V), (14, i_ ((List.replicate aa.length ([] : List (Int × Int))).length : Int)), (15, i_ O)] /\ FrS f46 aw aF /\ Nst (CR.sl Za0 2) aF (.slice U Z V) aS az /\ Inn f46 aw az) (fun _ cq => ?_) (fun α aF hM => ?_)
   ·refine Zl ?_
    obtain ⟨bm, bV⟩ := Zt.1 b8
    have cV := (aP.fr Y dn_)
    refine ZI (fun n α aG => ∃ (e : Int), ∃ (rows1 : List (List (Int × Int))), ∃ (ak : Fp), ZO (fun zz_ => Zbb skip O D zz_.1 zz_.2) n (e, rows1) = some aS /\ Has α [(1, i_ skip), (2, pt_ aH 0), (5, .slice U Z V), (6, i_ O), (14, i_ ((List.replicate aa.length ([] : List (Int × Int))).length : Int)), (15, i_ O), (20, .slice a77 cA bB), (21, i_ (D.length : Int)), (22, i_ e)] /\ FrS f46 aw aG /\ Nst (CR.sl Za0 2) aG (.slice U Z V) rows1 ak /\ Inn f46 aw ak) bm ⟨0, rows3, f46, bV, ha_, (fr_ Y.wf), cV, ir_⟩ ?_
    rintro bm α aG ⟨e, rows1, ak, bQ, bc, ae, av, au⟩ c_ bh
    obtain ⟨bk, c5, rfl, aq, aN⟩ := Zx bQ
    obtain ⟨β, rfl⟩ := Zk bc
    clear bc
    replace aq : Zbb skip O D e rows1 = some c5 := aq
    unfold Zbb at aq
    refine sn_ (sq_ fun cd => ?_)
    refine wc_ (e < (D.length : Int)) (fun an => ?_) fun an => ?_
    ·have cE := Ze an aq
     refine Zg (cd _ _ (sq_ fun bi => Zl (sq_ fun ce => g_' ?_)))
     obtain ⟨a2, bo⟩ := Zb cE
     have bC := (ca.djn aP.lt)
     have bq := (aQ.fr ae (Dj.symm bC))
     refine bq.sq.ix_ 94 a2 an (le_ 99 0 (.agg #[i_ ((gt D e).1), .int .u64 ((gt D e).2.1), i_ ((gt D e).2.2)]) bq.sq a2 an ?_)
     refine rk_ ae.wf [i_ 0, .int .u64 0, i_ 0] fun dc c7 ah aA cF => ?_
     obtain ⟨aW, cB, ai, aU⟩ := ra_ 99 0 ah.wf cF [i_ ((gt D e).1), .int .u64 ((gt D e).2.1), i_ ((gt D e).2.2)] [i_ ((gt D e).1), .int .u64 ((gt D e).2.1), i_ ((gt D e).2.2)]
     refine ek_ cB (Za (ce _ _ (sq_ fun cf => g_' (qs_ 1 (lr_ 3 0 (i_ ((gt D e).1)) aU (qs_ 2 (Za (cf _ _ ?_))))))))
     refine Zdi (((gt D e).1) = skip) (by kernel_rfl) rfl (fun aI => ?_) (fun aI => ?_)
     ·have cG := Zi aI bo
      refine ZR [0, 1, 2, 3, 4, 5, 6, 7, 8, 9, 10, 11, 12, 13, 14] (by kernel_rfl) ?_
      refine es_ 4 ?_
      obtain ⟨ac, cH⟩ := Zb cG
      have aC := ((av.ext ah).fr ai (aA.djn av.lt))
      refine aC.mx_ 173 ac.1 ac.2 ?_
      obtain ⟨de, df, bS, bZ, bT, bY⟩ := aC.kid ac.1 ac.2
      obtain ⟨cU, rfl, bW⟩ := ZhI bS
      have bj : KdS Za0 2 aW cU (gt rows1 O) ak (.slice U Z V) 1 O.toNat 0 := ⟨bW.sq.up bZ aC.lt, bY 0 _ rfl (by decide)⟩
      obtain ⟨bw, cv, bz, rfl⟩ := bj.sq.form
      refine m_' (.slice bw cv bz) (aL_ 197 (elp (.slice U Z V) 1 O.toNat 0) aW) (bT _ _ _ _ (by kernel_rfl)) (es_ 1 (mr_ 3 0 (i_ ((gt D e).1)) aU (es_ 1 (mr_ 61 1 (.int .u64 ((gt D e).2.1)) aU (es_ 1 ?_)))))
      refine Zhx (enc := Za0) (sz := 2) ai.wf [((gt D e).1, (gt D e).2.1)] 1 (by decide) (fun _ _ => rfl) (fun _ _ => rfl) rfl (by kernel_rfl) fun dr dg aX am dp bd => ?_
      obtain ⟨db, dq, dd, rfl⟩ := bd.form
      have cW := (aC.ext am)
      have cX := (bj.ext am)
      obtain ⟨dh, di, a8, bX, aY, b5, b6⟩ := Nst.borrow Zj4 cW ac.1 ac.2 cX rfl
      have bt := Inn.sub' (H := aX) b5
      have bu := Inn.sub' (H := aX) b6
      obtain ⟨bL, cJ⟩ := Zb cH
      obtain ⟨du, c8, dk, cC, ax, be, a7⟩ := Ow.append (P := Tryz.prog) 16 am.wf bX bd.sq (fun _ _ => rfl) (at_ := #[197, 197]) rfl rfl (by kernel_rfl) (by kernel_rfl) (by decide) (by have := bL; first | omega | (simp only [List.length_cons, List.length_nil] at this ⊢; omega) | (simp at this ⊢; omega))
      obtain ⟨bx, cw, bA, rfl⟩ := be.form
      refine Zgz (.slice bx cw bA) (by kernel_rfl) (cC) (ZL) ?_
      have bs := (a8.fr ax (Dj.symm aY))
      refine bs.mx_ 173 ac.1 ac.2 ?_
      have bD := (a7.dj (Dj.symm aY) a8.lt)
      obtain ⟨bv, aZ, cD, bG, aM, bP⟩ := Hol.close (P := Tryz.prog) (t := 197) ax.wf bs be (Dj.symm bD) ac.1 ac.2 (by kernel_rfl) (by kernel_rfl) (by kernel_rfl)
      have aM : Nst (CR.sl Za0 2) bv (.slice U Z V) (rows1.set O.toNat ((gt rows1 O) ++ [((gt D e).1, (gt D e).2.1)])) aZ := aM
      have c4 := bP.grow3 (Inn.trans ir_ (Nat.le_refl _) bt) (Inn.trans (Inn.trans ir_ (Nat.le_refl _) bu) (Nat.le_refl _) a7) ax.n
      refine fk_ cD (ZL) ?_
      refine ZK ?_
      refine bi _ _ (g_' ?_)
      obtain ⟨bM, cK⟩ := Zb cJ
      refine w_' ((e + 1)) (Zo (by have := bM; omega)) (qs_ 1 (Za ?_))
      have aR := (t_ (t_ (t_ ae.n ah.n) ai.n) am.n)
      obtain rfl := oi_ cK
      exact bh bk _ _ lt_ ⟨(e + 1), (rows1.set O.toNat ((gt rows1 O) ++ [((gt D e).1, (gt D e).2.1)])), aZ, aN, ha_, (fs_ Y.wf (fs_ Y.wf ((fs_ Y.wf ((fs_ Y.wf (fr_ Y.wf) ae ir_).extR ah) ai (aA.fresh ae.n)).extR am) ax (Inn.trans (Inn.trans ir_ (Nat.le_refl _) au) aR bu)) bG (Inn.trans (Inn.trans ir_ (Nat.le_refl _) au) aR bt)), aM, (Inn.trans (Inn.trans ir_ (Nat.le_refl _) au) aR c4)⟩
     have cL := Ze aI bo
     refine Zg (bi _ _ (g_' ?_))
     obtain ⟨bN, cM⟩ := Zb cL
     refine w_' ((e + 1)) (Zo (by have := bN; omega)) (qs_ 1 (Za ?_))
     have cY := ((av.ext ah).fr ai (aA.djn av.lt))
     obtain rfl := oi_ cM
     exact bh bk _ _ lt_ ⟨(e + 1), rows1, ak, aN, ha_, (fs_ Y.wf ((fs_ Y.wf (fr_ Y.wf) ae ir_).extR ah) ai (aA.fresh ae.n)), cY, (Inn.trans ir_ (Nat.le_refl _) au)⟩
    have cN := Zi an aq
    refine ZH (Zj (Zj (ZT ?_)))
    obtain rfl := oi_ cN
    obtain rfl := Zv aN
    exact cq _ _ ⟨ak, ha_, (fs_ Y.wf (fr_ Y.wf) ae ir_), av, (Inn.trans ir_ (Nat.le_refl _) au)⟩
   obtain ⟨az, bb, bI, cu, cc⟩ := hM
   obtain ⟨β, rfl⟩ := Zk bb
   clear bb
   refine cn _ _ (g_' ?_)
   obtain ⟨bO, cO⟩ := Zb cT
   refine w_' ((O + 1)) (Zo bO) (qs_ 1 (Za ?_))
   have cx := (t_ af.n Y.n)
   obtain rfl := oi_ cO
   exact ck cz _ _ lt_ ⟨(O + 1), aS, az, bf, ha_, (fs_ ab.wf (fs_ ab.wf (fs_ ab.wf (fr_ ab.wf) af ir_) Y in_) bI (Inn.trans ir_ (Nat.le_refl _) aO)), cu, (Inn.trans (Inn.trans ir_ (Nat.le_refl _) aO) cx cc)⟩
  have cP := Zi aJ ar
  refine ZH (Zj (Zj (ZT ?_)))
  obtain rfl := oi_ cP
  obtain rfl := Zv bf
  exact cj _ _ ⟨f46, ha_, (fs_ ab.wf (fr_ ab.wf) af ir_), aP, (Inn.trans ir_ (Nat.le_refl _) aO)⟩
 obtain ⟨ay, a_, bH, cr, b_⟩ := hM
 obtain ⟨β, rfl⟩ := Zk a_
 clear a_
 refine ch _ _ (sn_ ?_)
 refine Zh ?_
 refine br_ [.slice U Z V] ?_
 have cy := (t_ ad.n ab.n)
 obtain rfl := oi_ cQ
 exact ⟨(.slice U Z V), ay, rfl, (fs_ aV (((f0_ aV).extR ad).extR ab) bH (ap.fresh ad.n)), cr, (Inn.trans (ap.fresh ad.n) cy b_)⟩
theorem ZeQ {H : AH} {ab : Value} {aP : Fp} {ar : Value} {aR : Fp} {ac : Value} {aQ : Fp} {am : Value} {aS : Fp} {V : List (Int)} {az : List (Int)} {O : List (Bool)} {U : List (Bool)} {r : Int}
    (aO : WF H) (aC : Sq (Zai .u64) 1 H ab V aP) (aY : Sq (Zai .i64) 1 H ar az aR) (aD : Sq Zaz 1 H ac O aQ) (aE : Sq Zaz 1 H am U aS) (aH : ZaE V az O U = some r) :
    ACalls Tryz.prog 87 #[.agg #[ab, ar, ac, am]] H fun v H' => v = i_ r /\ FrS [] H H' := by
 refine ab_ Tryz.func87 ?_
 unfold ZaE at aH
 refine sq_ fun k1 => g_' ?_
 refine ZaK aO [ab, ar, ac, am] (Zu (aC.one1) (Zu (aY.one1) (Zu (aD.one1) (Zu (aE.one1) (Z1))))) (by kernel_rfl) fun b2 ay ai bs ah => ?_
 refine qs_ 1 (Za (k1 _ _ (sn_ (sq_ fun a_ => sq_ fun a6 => g_' (qs_ 1 (lr_ 31 2 (ac) ah ?_))))))
 have av := (aD.ext ai)
 refine av.ln_ 31 (qs_ 1 (Za (a6 _ _ ?_)))
 obtain ⟨au, a2, ba⟩ := bs_ aH
 refine ZC (fun α aw => Has α [(3, i_ au)] /\ ay = aw) (fun _ a7 => ?_) (fun α aw hM => ?_)
 ·refine Zl ?_
  obtain ⟨aI, a1⟩ := Zt.1 a2
  refine ZI (fun n α ax => ∃ (D : Int), ∃ (e : Int), ZO (fun zz_ => Zao V O U zz_.1 zz_.2) n (D, e) = some au /\ Has α [(1, pt_ b2 0), (3, i_ D), (7, i_ (O.length : Int)), (8, i_ e)] /\ ay = ax) aI ⟨(-1), 0, a1, ha_, rfl⟩ ?_
  rintro aI α ax ⟨D, e, aZ, aG, rfl⟩ br ae
  obtain ⟨ag, bq, rfl, ad, Z⟩ := Zx aZ
  obtain ⟨β, rfl⟩ := Zk aG
  clear aG
  replace ad : Zao V O U D e = some bq := ad
  unfold Zao at ad
  refine sn_ (sq_ fun a8 => ?_)
  refine wc_ (e < (O.length : Int)) (fun aa => ?_) fun aa => ?_
  ·have bb := Ze aa ad
   refine Zg (a8 _ _ (sq_ fun af => Zl (sn_ (sq_ fun an => ?_))))
   refine ZR [0, 1, 2, 3, 4, 5, 6, 7, 8, 9, 10, 11, 12, 13, 14, 15, 16, 17, 18, 19, 20, 21, 22, 23, 24, 25, 26, 27, 28, 29] (by kernel_rfl) ?_
   refine es_ 1 (mr_ 31 2 (ac) ah (es_ 1 ?_))
   obtain ⟨Y, aJ⟩ := Zb bb
   refine av.mx_ 31 Y aa (me_ 4 0 (.bool (gt O e)) av Y aa (e_' (.bool (gt O e)) ?_))
   by_cases ak : (gt O e) = true
   ·have bc := Ze ak aJ
    rw [ak]
    refine es_ 1 (mr_ 31 3 (am) ah (es_ 1 ?_))
    obtain ⟨aA, aK⟩ := Zb bc
    have aN := (aE.ext ai)
    refine aN.mx_ 31 Y aA (me_ 4 0 (.bool (gt U e)) aN Y aA (e_' (.bool (!(gt U e))) (e_' (.bool (!(gt U e))) (e_' (.bool (!(gt U e))) ?_))))
    by_cases al : (!(gt U e)) = true
    ·have aL := Ze al aK
     rw [al]
     refine es_ 1 ?_
     refine db_ (D < 0) (fun ap => ?_) fun ap => ?_
     ·have bd := Ze ap aL
      refine es_ 14 ?_
      refine ZK ?_
      refine an _ _ ?_
      refine wb_ true (fun _ => ?_) fun h => by cases h
      refine g_' (qs_ 2 (Za (af _ _ (g_' ?_))))
      obtain ⟨aT, be⟩ := Zb bd
      refine w_' ((e + 1)) (Zo (by have := aT; omega)) (qs_ 1 (Za ?_))
      obtain rfl := oi_ be
      exact ae ag _ _ lt_ ⟨e, (e + 1), Z, ha_, rfl⟩
     have bf := Zi ap aL
     refine es_ 2 (mr_ 135 0 (ab) ah (es_ 1 ?_))
     obtain ⟨aB, bg⟩ := Zb bf
     have ao := (aC.ext ai)
     refine ao.mx_ 135 Y aB (me_ 61 0 (.int .u64 (gt V e)) ao Y aB (es_ 1 (mr_ 135 0 (ab) ah (es_ 1 ?_))))
     obtain ⟨aj, aM⟩ := Zb bg
     refine ao.mx_ 135 aj.1 aj.2 (me_ 61 0 (.int .u64 (gt V D)) ao aj.1 aj.2 (es_ 3 ?_))
     refine ZK ?_
     refine an _ _ ?_
     refine wc_ ((gt V e) < (gt V D)) (fun aq => ?_) fun aq => ?_
     ·have bh := Ze aq aM
      refine g_' (qs_ 2 (Za (af _ _ (g_' ?_))))
      obtain ⟨aU, bi⟩ := Zb bh
      refine w_' ((e + 1)) (Zo (by have := aU; omega)) (qs_ 1 (Za ?_))
      obtain rfl := oi_ bi
      exact ae ag _ _ lt_ ⟨e, (e + 1), Z, ha_, rfl⟩
     have bj := Zi aq aM
     refine Zg (af _ _ (g_' ?_))
     obtain ⟨aV, bk⟩ := Zb bj
     refine w_' ((e + 1)) (Zo (by have := aV; omega)) (qs_ 1 (Za ?_))
     obtain rfl := oi_ bk
     exact ae ag _ _ lt_ ⟨D, (e + 1), Z, ha_, rfl⟩
    have bl := Zi al aK
    rw [nb al]
    refine es_ 16 ?_
    refine ZK ?_
    refine an _ _ ?_
    refine wb_ false (fun h => by cases h) fun _ => ?_
    refine Zg (af _ _ (g_' ?_))
    obtain ⟨aW, bm⟩ := Zb bl
    refine w_' ((e + 1)) (Zo (by have := aW; omega)) (qs_ 1 (Za ?_))
    obtain rfl := oi_ bm
    exact ae ag _ _ lt_ ⟨D, (e + 1), Z, ha_, rfl⟩
   have bn := Zi ak aJ
   rw [nb ak]
   refine es_ 24 ?_
   refine ZK ?_
   refine an _ _ ?_
   refine wb_ false (fun h => by cases h) fun _ => ?_
   refine Zg (af _ _ (g_' ?_))
   obtain ⟨aX, bo⟩ := Zb bn
   refine w_' ((e + 1)) (Zo (by have := aX; omega)) (qs_ 1 (Za ?_))
   obtain rfl := oi_ bo
   exact ae ag _ _ lt_ ⟨D, (e + 1), Z, ha_, rfl⟩
  have bp := Zi aa ad
  refine ZH (Zj (Zj (ZT ?_)))
  obtain rfl := oi_ bp
  obtain rfl := Zv Z
  exact a7 _ _ ⟨ha_, rfl⟩
 obtain ⟨aF, rfl⟩ := hM
 obtain ⟨β, rfl⟩ := Zk aF
 clear aF
 refine a_ _ _ (sn_ ?_)
 refine Zh ?_
 refine br_ [i_ au] ?_
 obtain rfl := oi_ ba
 exact ⟨rfl, ((f0_ aO).extR ai)⟩
end Go.Vd

/-! (KSc9) -/

set_option maxRecDepth 100000
set_option maxHeartbeats 4000000
set_option linter.unusedVariables false
namespace Go.Vd
open Go.Proofs
attribute [local irreducible] Zp Zq aWp
theorem ZgA {H : AH} {aG : Value} {cf : Fp} {D : List (List (Int × Int))} {s : Int} {hops : Int} {settles : Int} {most : Int} {r : List (Int) × List (Int) × List (Bool) × List (Bool)}
    (a6 : WF H) (aW : Nst (CR.sl Za0 2) H aG D cf) (cy : Zck D s hops settles most = some r) :
    ACalls Tryz.prog 73 #[aG, i_ s, i_ hops, i_ settles, .int .u64 most] H fun v H' => ∃ (cX : Value) (bc : Fp) (cY : Value) (bd : Fp) (cV : Value) (ba : Fp) (cW : Value) (bb : Fp), v = .agg #[cX, cY, cV, cW] /\ FrS [] H H' /\ Ow (Zai .u64) 1 H' cX r.1 bc /\ Ow (Zai .i64) 1 H' cY r.2.1 bd /\ Ow Zaz 1 H' cV r.2.2.1 ba /\ Ow Zaz 1 H' cW r.2.2.2 bb /\ Inn [] H bc /\ Inn [] H bd /\ Inn [] H ba /\ Inn [] H bb /\ Dj bc bd /\ Dj bc ba /\ Dj bd ba /\ Dj bc bb /\ Dj bd bb /\ Dj ba bb := by
 refine ab_ Tryz.func73 ?_
 unfold Zck at cy
 refine sq_ fun eu => g_' ?_
 refine rk_ a6 [.slice none 0 0, .slice none 0 0, .slice none 0 0, .slice none 0 0] fun aL gF ar dZ aO => ?_
 refine Za (eu _ _ (sq_ fun eA => g_' (qs_ 1 ?_)))
 have da := (aW.ext ar)
 refine da.ln_ 173 (qs_ 1 (Za (eA _ _ (sq_ fun eC => ?_))))
 refine ZR [0, 1, 2, 3, 4, 5, 6, 7, 8, 9, 10] (by kernel_rfl) ?_
 refine es_ 1 ?_
 obtain ⟨bn, f0⟩ := Zb cy
 refine ZhL (t := 135) (m := 8) (l := (D.length : Int)) (c := (D.length : Int)) (enc := (Zai .u64)) (sz := 1) ar.wf (0 : Int) (by kernel_rfl) (by decide) bn.1 (Int.le_refl _) (by omega) (by have := bn; omega) (by kernel_rfl) fun gP aD dh ak bf ac => ?_
 obtain ⟨a45, ag, ad, rfl⟩ := ac.form
 have ac : Ow (Zai .u64) 1 dh (.slice a45 ag ad) (List.replicate D.length (0 : Int)) aD := ac
 refine es_ 1 ?_
 refine ZhL (t := 26) (m := 8) (l := (D.length : Int)) (c := (D.length : Int)) (enc := (Zai .i64)) (sz := 1) ak.wf (0 : Int) (by kernel_rfl) (by decide) bn.1 (Int.le_refl _) (by omega) (by have := bn; omega) (by kernel_rfl) fun gQ f50 di aa aX aq => ?_
 obtain ⟨a55, am, ai, rfl⟩ := aq.form
 have aq : Ow (Zai .i64) 1 di (.slice a55 am ai) (List.replicate D.length (0 : Int)) f50 := aq
 refine es_ 1 ?_
 obtain ⟨bo, f7⟩ := Zb f0
 refine ZhL (t := 31) (m := 1) (l := (D.length : Int)) (c := (D.length : Int)) (enc := Zaz) (sz := 1) aa.wf (false : Bool) (by kernel_rfl) (by decide) bo.1 (Int.le_refl _) (by omega) (by have := bo; omega) (by kernel_rfl) fun gR aE dk Y aA au => ?_
 obtain ⟨ah, an, aj, rfl⟩ := au.form
 have au : Ow Zaz 1 dk (.slice ah an aj) (List.replicate D.length (false : Bool)) aE := au
 refine es_ 1 ?_
 refine ZhL (t := 31) (m := 1) (l := (D.length : Int)) (c := (D.length : Int)) (enc := Zaz) (sz := 1) Y.wf (false : Bool) (by kernel_rfl) (by decide) bo.1 (Int.le_refl _) (by omega) (by have := bo; omega) (by kernel_rfl) fun gS aV dm ab af aK => ?_
 obtain ⟨a77, ax, av, rfl⟩ := aK.form
 have aK : Ow Zaz 1 dm (.slice a77 ax av) (List.replicate D.length (false : Bool)) aV := aK
 refine es_ 1 ?_
 refine ZkT ab.wf [.slice none 0 0, .slice none 0 0, .slice none 0 0, .slice none 0 0] (by kernel_rfl) fun aS gJ ap aw cU => ?_
 have gy := (aK.ext ap)
 have gz := ((au.ext ab).ext ap)
 have gA := (((aq.ext Y).ext ab).ext ap)
 have gB := ((((ac.ext aa).ext Y).ext ab).ext ap)
 obtain ⟨gK, fo, al, bS⟩ := ra_ 171 0 ap.wf cU [.slice a45 ag ad, .slice a55 am ai, .slice ah an aj, .slice a77 ax av] [.slice a45 ag ad, .slice a55 am ai, .slice ah an aj, .slice a77 ax av]
 refine fk_ fo (ZL) ?_
 refine ZK ?_
 refine eC _ _ (sq_ fun eE => g_' (qs_ 1 (lr_ 31 2 (.slice ah an aj) bS (qs_ 1 ?_))))
 obtain ⟨bp, f8⟩ := Zb f7
 have aM := (aw.djn (au.lt.le ab.n))
 have dd := (gz.fr al aM)
 refine dd.sq.ix_ 31 bp.1 bp.2 ?_
 obtain ⟨bV, fc, U, d4⟩ := Ow.store (P := Tryz.prog) (t := 4) (off := 0) al.wf dd bp.1 bp.2 (.bool true) [.bool true] (by kernel_rfl) (by kernel_rfl) rfl true (Nat.le_of_ble_eq_true rfl) (by kernel_rfl)
 refine ek_ fc (Za (eE _ _ (sq_ fun eh => sn_ ?_)))
 obtain ⟨bj, ec, fu⟩ := bs_ f8
 refine ZC (fun α aP => Has α [(10, pt_ aL 0), (12, pt_ aS 0)] /\ FrS (aD ++ (f50 ++ (aE ++ aV))) bV aP /\ Ow (Zai .u64) 1 aP (.slice a45 ag ad) bj.1 aD /\ Ow (Zai .i64) 1 aP (.slice a55 am ai) bj.2.1 f50 /\ Ow Zaz 1 aP (.slice ah an aj) bj.2.2.1 aE /\ Ow Zaz 1 aP (.slice a77 ax av) bj.2.2.2 aV) (fun _ cA => ?_) (fun α aP hM => ?_)
 ·refine Zl ?_
  obtain ⟨cH, d8⟩ := Zt.1 ec
  have eM := (t_ (t_ aa.n Y.n) ab.n)
  have dp := (aw.djn (ac.lt.le eM))
  have dq := (aA.djn (ac.lt.le aa.n))
  have f_ := ((gB.fr al dp).fr U dq)
  have eN := (t_ Y.n ab.n)
  have dr := (aw.djn (aq.lt.le eN))
  have ga := ((gA.fr al dr).fr U (aA.djn aq.lt))
  have dt := (af.djn au.lt)
  have gb := ((gy.fr al (aw.djn aK.lt)).fr U (Dj.symm dt))
  refine ZI (fun n α aQ => ∃ (b4 : List (Int)), ∃ (aH : List (Int)), ∃ (aR : List (Bool)), ∃ (ay : List (Bool)), ∃ (count8 : Int), ZO (fun zz_ => Zbx D hops settles most zz_.1 zz_.2.1 zz_.2.2.1 zz_.2.2.2.1 zz_.2.2.2.2) n (b4, aH, aR, ay, count8) = some bj /\ Has α [(0, aG), (2, i_ hops), (3, i_ settles), (4, .int .u64 most), (10, pt_ aL 0), (12, pt_ aS 0), (13, i_ count8)] /\ FrS (aD ++ (f50 ++ (aE ++ aV))) bV aQ /\ Ow (Zai .u64) 1 aQ (.slice a45 ag ad) b4 aD /\ Ow (Zai .i64) 1 aQ (.slice a55 am ai) aH f50 /\ Ow Zaz 1 aQ (.slice ah an aj) aR aE /\ Ow Zaz 1 aQ (.slice a77 ax av) ay aV) cH ⟨(List.replicate D.length (0 : Int)), (List.replicate D.length (0 : Int)), ((List.replicate D.length (false : Bool)).set s.toNat true), (List.replicate D.length (false : Bool)), 0, d8, ha_, (fr_ U.wf), f_, ga, d4, gb⟩ ?_
  rintro cH α aQ ⟨b4, aH, aR, ay, count8, d0, cr, ao, aY, bt, bi, bu⟩ gL cB
  obtain ⟨cI, gC, rfl, bg, bs⟩ := Zx d0
  obtain ⟨β, rfl⟩ := Zk cr
  clear cr
  replace bg : Zbx D hops settles most b4 aH aR ay count8 = some gC := bg
  unfold Zbx at bg
  refine sq_ fun ej => sn_ ?_
  refine wc_ (count8 < settles) (fun bG => ?_) fun bG => ?_
  ·have fv := Ze bG bg
   refine Zg (ej _ _ (sq_ fun cC => Zl (sq_ fun ek => g_' ?_)))
   have bY := (aw.djn aK.lt)
   have eO := (t_ Y.n ab.n)
   have bZ := (aw.djn (aq.lt.le eO))
   have eP := (t_ (t_ aa.n Y.n) ab.n)
   have bB := (aw.djn (ac.lt.le eP))
   have bT := ((bS.frS U (Dj.symm aM)).frS ao (Dj.app (Dj.symm bB) (Dj.app (Dj.symm bZ) (Dj.app (Dj.symm aM) (Dj.symm bY)))))
   refine lr_ 171 0 (.agg #[.slice a45 ag ad, .slice a55 am ai, .slice ah an aj, .slice a77 ax av]) bT ?_
   obtain ⟨e, ef, fw⟩ := bs_ fv
   refine ck_ (ZeQ ao.wf aY.sq bt.sq bi.sq bu.sq ef) ?_
   rintro _ de ⟨rfl, Z⟩
   refine qs_ 1 (Za (ek _ _ (sq_ fun el => sq_ fun em => ?_)))
   obtain ⟨cN, cz, cP⟩ := bs_ fw
   refine ZC (fun α bW => Has α [(0, aG), (2, i_ hops), (3, i_ settles), (4, .int .u64 most), (10, pt_ aL 0), (12, pt_ aS 0), (13, i_ count8), (14, i_ e), (50, .bool cN)] /\ de = bW) (fun _ cD => ?_) (fun α bW hM => ?_)
   ·refine g_' (qs_ 1 ?_)
    refine sb_ (e < 0) (fun bH => ?_) fun bH => ?_
    ·have fx := Ze bH cz
     refine qs_ 9 (Za ?_)
     obtain rfl := oi_ fx
     exact cD _ _ ⟨ha_, rfl⟩
    have fy := Zi bH cz
    refine qs_ 2 ?_
    have gc := (bT.frS Z dn_)
    refine lr_ 135 0 (.slice a45 ag ad) gc (qs_ 1 ?_)
    obtain ⟨bm, fz⟩ := Zb fy
    have cZ := (aY.fr Z dn_)
    refine cZ.sq.ix_ 135 bm.1 bm.2 (le_ 61 0 (.int .u64 (gt b4 e)) cZ.sq bm.1 bm.2 (qs_ 3 (Za ?_)))
    obtain rfl := oi_ fz
    exact cD _ _ ⟨ha_, rfl⟩
   obtain ⟨cu, rfl⟩ := hM
   obtain ⟨β, rfl⟩ := Zk cu
   clear cu
   refine em _ _ ?_
   refine wb_ (cN) (fun bI => ?_) fun bI => ?_
   ·have fA := Ze bI cP
    refine ZH (Zj (Zi4 (by decide) (Zj (Zj (ZT ?_)))))
    have gd := (aY.fr Z dn_)
    have ge := (bt.fr Z dn_)
    have gf := (bi.fr Z dn_)
    have gg := (bu.fr Z dn_)
    obtain rfl := oi_ fA
    obtain rfl := Zv bs
    exact cA _ _ ⟨ha_, (fs_ U.wf (fs_ U.wf (fr_ U.wf) ao ir_) Z in_), gd, ge, gf, gg⟩
   have fB := ZM bI cP
   refine Zg (el _ _ (sq_ fun eo => g_' (qs_ 1 ?_)))
   have c0 := (bT.frS Z dn_)
   refine lr_ 31 3 (.slice a77 ax av) c0 (qs_ 1 ?_)
   obtain ⟨az, fC⟩ := Zb fB
   have c3 := (bu.fr Z dn_)
   refine c3.sq.ix_ 31 az.1 az.2 ?_
   obtain ⟨bk, fd, V, bL⟩ := Ow.store (P := Tryz.prog) (t := 4) (off := 0) Z.wf c3 az.1 az.2 (.bool true) [.bool true] (by kernel_rfl) (by kernel_rfl) rfl true (Nat.le_of_ble_eq_true rfl) (by kernel_rfl)
   refine ek_ fd (Za (eo _ _ (sq_ fun ep => sq_ fun eq => g_' (qs_ 1 ?_))))
   have c4 := (c0.frS V (Dj.symm bY))
   refine lr_ 26 1 (.slice a55 am ai) c4 (qs_ 1 ?_)
   obtain ⟨cg, cQ⟩ := Zb fC
   have bC := (af.djn (aq.lt.le Y.n))
   have bw := ((bt.fr Z dn_).fr V bC)
   refine bw.sq.ix_ 26 az.1 cg (le_ 3 0 (i_ (gt aH e)) bw.sq az.1 cg (qs_ 2 (Za (eq _ _ ?_))))
   refine wc_ ((gt aH e) ≥ hops) (fun bJ => ?_) fun bJ => ?_
   ·have fD := Ze bJ cQ
    refine ZH (Zj (ZT ?_))
    refine cC _ _ (g_' (qs_ 1 ?_))
    obtain ⟨dT, fE⟩ := Zb fD
    refine w_' ((count8 + 1)) (Zo dT) (qs_ 1 (Za ?_))
    have eQ := (t_ aa.n Y.n)
    have du := (af.djn (ac.lt.le eQ))
    have gh := ((aY.fr Z dn_).fr V du)
    have gi := ((bi.fr Z dn_).fr V (af.djn au.lt))
    obtain rfl := oi_ fE
    exact cB cI _ _ lt_ ⟨b4, aH, aR, (ay.set e.toNat true), (count8 + 1), bs, ha_, (fs_ U.wf (fs_ U.wf (fs_ U.wf (fr_ U.wf) ao ir_) Z in_) V (Inn.right (Inn.right (Inn.right ir_)))), gh, bw, gi, bL⟩
   have fF := Zi bJ cQ
   refine Zg (ep _ _ (sq_ fun es => g_' (qs_ 2 ?_)))
   obtain ⟨ch, fG⟩ := Zb fF
   have eR := (t_ (t_ (t_ (t_ ar.n ak.n) aa.n) Y.n) ab.n)
   have dv := (aw.djn (aW.lt.le eR))
   have eS := (t_ (t_ ar.n ak.n) aa.n)
   have bD := (aA.djn (aW.lt.le eS))
   have eT := (t_ (t_ (t_ ar.n ak.n) aa.n) Y.n)
   have b5 := (af.djn (aW.lt.le eT))
   have eU := (t_ ar.n ak.n)
   have b6 := (aX.djn (aW.lt.le eU))
   have b7 := (bf.djn (aW.lt.le ar.n))
   have bU := ((((((((((da.ext ak).ext aa).ext Y).ext ab).ext ap).fr al dv).fr U bD).fr ao (Dj.app b7 (Dj.app b6 (Dj.app bD b5)))).fr Z dn_).fr V b5)
   refine bU.ix_ 173 az.1 ch ?_
   obtain ⟨gN, gO, d2, eb, d3, ea⟩ := bU.kid az.1 ch
   obtain ⟨f9, rfl, d_⟩ := ZhI d2
   have bO : KdS Za0 2 bk f9 (gt D e) cf aG 1 e.toNat 0 := ⟨d_.sq.up eb bU.lt, ea 0 _ rfl (by decide)⟩
   obtain ⟨bz, bQ, bA, rfl⟩ := bO.sq.form
   refine l_' (.slice bz bQ bA) (aL_ 197 (elp aG 1 e.toNat 0) bk) (d3 _ _ _ _ (by kernel_rfl)) (bO.sq.ln_ 197 (qs_ 1 (Za (es _ _ ?_))))
   obtain ⟨aN, ed, fH⟩ := bs_ fG
   refine ZC (fun α a7 => Has α [(0, aG), (2, i_ hops), (3, i_ settles), (4, .int .u64 most), (10, pt_ aL 0), (12, pt_ aS 0), (13, i_ count8)] /\ FrS (aD ++ (f50 ++ aE)) bk a7 /\ Ow (Zai .u64) 1 a7 (.slice a45 ag ad) aN.1 aD /\ Ow (Zai .i64) 1 a7 (.slice a55 am ai) aN.2.1 f50 /\ Ow Zaz 1 a7 (.slice ah an aj) aN.2.2 aE) (fun _ et => ?_) (fun α a7 hM => ?_)
   ·refine Zl ?_
    obtain ⟨cJ, d9⟩ := Zt.1 ed
    have eV := (t_ aa.n Y.n)
    have dw := (af.djn (ac.lt.le eV))
    have gj := ((aY.fr Z dn_).fr V dw)
    have gk := ((bi.fr Z dn_).fr V (af.djn au.lt))
    refine ZI (fun n α a8 => ∃ (b0 : List (Int)), ∃ (b1 : List (Int)), ∃ (b2 : List (Bool)), ∃ (O : Int), ZO (fun zz_ => ZaN D ay e zz_.1 zz_.2.1 zz_.2.2.1 zz_.2.2.2) n (b0, b1, b2, O) = some aN /\ Has α [(0, aG), (2, i_ hops), (3, i_ settles), (4, .int .u64 most), (10, pt_ aL 0), (12, pt_ aS 0), (13, i_ count8), (14, i_ e), (65, .slice bz bQ bA), (66, i_ ((gt D e).length : Int)), (67, i_ O)] /\ FrS (aD ++ (f50 ++ aE)) bk a8 /\ Ow (Zai .u64) 1 a8 (.slice a45 ag ad) b0 aD /\ Ow (Zai .i64) 1 a8 (.slice a55 am ai) b1 f50 /\ Ow Zaz 1 a8 (.slice ah an aj) b2 aE) cJ ⟨b4, aH, aR, 0, d9, ha_, (fr_ V.wf), gj, bw, gk⟩ ?_
    rintro cJ α a8 ⟨b0, b1, b2, O, d1, cw, ae, cG, bP, bv⟩ gM cE
    obtain ⟨cK, gD, rfl, bh, bM⟩ := Zx d1
    obtain ⟨β, rfl⟩ := Zk cw
    clear cw
    replace bh : ZaN D ay e b0 b1 b2 O = some gD := bh
    unfold ZaN at bh
    refine sn_ (sq_ fun ev => ?_)
    refine wc_ (O < ((gt D e).length : Int)) (fun be => ?_) fun be => ?_
    ·have fI := Ze be bh
     refine Zg (ev _ _ (sq_ fun cF => Zl (sq_ fun ew => g_' ?_)))
     obtain ⟨ci, fJ⟩ := Zb fI
     have c5 := (bO.fr ae (Dj.app b7 (Dj.app b6 bD)))
     refine c5.sq.ix_ 197 ci be (le_ 199 0 (.agg #[i_ ((gt (gt D e) O).1), .int .u64 ((gt (gt D e) O).2)]) c5.sq ci be ?_)
     refine rk_ ae.wf [i_ 0, .int .u64 0] fun dn gE aB aF fK => ?_
     obtain ⟨df, ff, aC, aZ⟩ := ra_ 199 0 aB.wf fK [i_ ((gt (gt D e) O).1), .int .u64 ((gt (gt D e) O).2)] [i_ ((gt (gt D e) O).1), .int .u64 ((gt (gt D e) O).2)]
     refine ek_ ff (Za (ew _ _ (sq_ fun ex => ?_)))
     refine ZR [0, 1, 2, 3, 4, 5, 6, 7, 8] (by kernel_rfl) ?_
     refine es_ 1 ?_
     have eW := (t_ (t_ (t_ (t_ (t_ al.n U.n) ao.n) Z.n) V.n) ae.n)
     have dx := (aF.djn (cU.ltF.le eW))
     have a1 := (((c4.frS ae (Dj.app (Dj.symm bB) (Dj.app (Dj.symm bZ) (Dj.symm aM)))).ext aB).frS aC dx)
     refine mr_ 135 0 (.slice a45 ag ad) a1 (es_ 1 ?_)
     obtain ⟨cj, fL⟩ := Zb fJ
     have eX := (t_ (t_ (t_ (t_ (t_ (t_ (t_ (t_ (t_ aa.n Y.n) ab.n) ap.n) al.n) U.n) ao.n) Z.n) V.n) ae.n)
     have b8 := (aF.djn (ac.lt.le eX))
     have a2 := ((cG.ext aB).fr aC b8)
     refine a2.sq.mx_ 135 az.1 cj (me_ 61 0 (.int .u64 (gt b0 e)) a2.sq az.1 cj (es_ 1 (mr_ 61 1 (.int .u64 ((gt (gt D e) O).2)) aZ ?_)))
     obtain ⟨dU, fM⟩ := Zb fL
     refine d_w (((gt b0 e) + ((gt (gt D e) O).2))) (k := .u64) (x := ((gt b0 e) + ((gt (gt D e) O).2))) (by kernel_rfl) (ZdA dU) ?_
     refine es_ 1 ?_
     refine ZK ?_
     refine ex _ _ (sq_ fun ey => ?_)
     obtain ⟨cO, ee, cR⟩ := bs_ fM
     refine ZC (fun α bX => Has α [(0, aG), (2, i_ hops), (3, i_ settles), (4, .int .u64 most), (10, pt_ aL 0), (12, pt_ aS 0), (13, i_ count8), (14, i_ e), (16, pt_ dn 0), (17, .int .u64 ((gt b0 e) + ((gt (gt D e) O).2))), (65, .slice bz bQ bA), (66, i_ ((gt D e).length : Int)), (67, i_ O), (104, .bool cO)] /\ df = bX) (fun _ bN => ?_) (fun α bX hM => ?_)
     ·refine g_' (qs_ 1 (lr_ 31 3 (.slice a77 ax av) a1 (qs_ 1 (lr_ 3 0 (i_ ((gt (gt D e) O).1)) aZ ?_))))
      obtain ⟨aI, cS⟩ := Zb ee
      have dy := (af.djn au.lt)
      have eY := (t_ aa.n Y.n)
      have dz := (af.djn (ac.lt.le eY))
      have eZ := (t_ (t_ (t_ (t_ (t_ (t_ ap.n al.n) U.n) ao.n) Z.n) V.n) ae.n)
      have dA := (aF.djn (aK.lt.le eZ))
      have c6 := (((bL.fr ae (Dj.app (Dj.symm dz) (Dj.app (Dj.symm bC) (Dj.symm dy)))).ext aB).fr aC dA)
      refine c6.sq.ix_ 31 aI.1 aI.2 (le_ 4 0 (.bool (gt (ay.set e.toNat true) ((gt (gt D e) O).1))) c6.sq aI.1 aI.2 (q_ (.bool (!(gt (ay.set e.toNat true) ((gt (gt D e) O).1)))) (q_ (.bool (!(gt (ay.set e.toNat true) ((gt (gt D e) O).1)))) ?_)))
      by_cases bq : (!(gt (ay.set e.toNat true) ((gt (gt D e) O).1))) = true
      ·have fN := Ze bq cS
       rw [bq]
       refine qs_ 1 (lr_ 31 2 (.slice ah an aj) a1 (qs_ 1 (lr_ 3 0 (i_ ((gt (gt D e) O).1)) aZ ?_)))
       obtain ⟨ck, cT⟩ := Zb fN
       have e0 := (t_ (t_ (t_ (t_ (t_ (t_ (t_ ab.n ap.n) al.n) U.n) ao.n) Z.n) V.n) ae.n)
       have dB := (aF.djn (au.lt.le e0))
       have c7 := ((bv.ext aB).fr aC dB)
       refine c7.sq.ix_ 31 aI.1 ck (le_ 4 0 (.bool (gt b2 ((gt (gt D e) O).1))) c7.sq aI.1 ck (q_ (.bool (!(gt b2 ((gt (gt D e) O).1)))) (q_ (.bool (!(gt b2 ((gt (gt D e) O).1)))) ?_)))
       by_cases br : (!(gt b2 ((gt (gt D e) O).1))) = true
       ·have fO := Ze br cT
        rw [br]
        refine qs_ 10 (Za ?_)
        obtain rfl := oi_ fO
        exact bN _ _ ⟨ha_, rfl⟩
       have fP := Zi br cT
       rw [nb br]
       refine qs_ 2 (lr_ 135 0 (.slice a45 ag ad) a1 (qs_ 1 (lr_ 3 0 (i_ ((gt (gt D e) O).1)) aZ ?_)))
       obtain ⟨cm, fQ⟩ := Zb fP
       refine a2.sq.ix_ 135 aI.1 cm (le_ 61 0 (.int .u64 (gt b0 ((gt (gt D e) O).1))) a2.sq aI.1 cm (qs_ 3 (Za ?_)))
       obtain rfl := oi_ fQ
       exact bN _ _ ⟨ha_, rfl⟩
      have fR := Zi bq cS
      rw [nb bq]
      refine qs_ 18 (Za ?_)
      obtain rfl := oi_ fR
      exact bN _ _ ⟨ha_, rfl⟩
     obtain ⟨cx, rfl⟩ := hM
     obtain ⟨β, rfl⟩ := Zk cx
     clear cx
     refine ey _ _ ?_
     refine wb_ (cO) (fun bK => ?_) fun bK => ?_
     ·have fS := Ze bK cR
      refine sq_ fun ez => g_' (qs_ 1 (lr_ 31 2 (.slice ah an aj) a1 (qs_ 1 (lr_ 3 0 (i_ ((gt (gt D e) O).1)) aZ ?_))))
      obtain ⟨aJ, fT⟩ := Zb fS
      have e1 := (t_ (t_ (t_ (t_ (t_ (t_ (t_ ab.n ap.n) al.n) U.n) ao.n) Z.n) V.n) ae.n)
      have b9 := (aF.djn (au.lt.le e1))
      have c8 := ((bv.ext aB).fr aC b9)
      refine c8.sq.ix_ 31 aJ.1 aJ.2 ?_
      obtain ⟨gG, fg, aT, d5⟩ := Ow.store (P := Tryz.prog) (t := 4) (off := 0) aC.wf c8 aJ.1 aJ.2 (.bool true) [.bool true] (by kernel_rfl) (by kernel_rfl) rfl true (Nat.le_of_ble_eq_true rfl) (by kernel_rfl)
      refine ek_ fg (Za (ez _ _ (sq_ fun eB => g_' (qs_ 1 ?_))))
      have c9 := (a1.frS aT (Dj.symm aM))
      refine lr_ 135 0 (.slice a45 ag ad) c9 (qs_ 1 ?_)
      have c_ := (aZ.frS aT (Dj.symm b9))
      refine lr_ 3 0 (i_ ((gt (gt D e) O).1)) c_ (qs_ 1 ?_)
      obtain ⟨cn, fU⟩ := Zb fT
      have b_ := (aA.djn (ac.lt.le aa.n))
      have db := (a2.fr aT b_)
      refine db.sq.ix_ 135 aJ.1 cn ?_
      obtain ⟨gH, fh, aU, d6⟩ := Ow.store (P := Tryz.prog) (t := 61) (off := 0) aT.wf db aJ.1 cn (.int .u64 ((gt b0 e) + ((gt (gt D e) O).2))) [.int .u64 ((gt b0 e) + ((gt (gt D e) O).2))] (by kernel_rfl) (by kernel_rfl) rfl ((gt b0 e) + ((gt (gt D e) O).2)) (Nat.le_of_ble_eq_true rfl) (by kernel_rfl)
      refine ek_ fh (Za (eB _ _ ?_))
      refine ZR [0, 1, 2, 3, 4, 5, 6, 7, 8, 9, 10, 11] (by kernel_rfl) ?_
      refine es_ 1 ?_
      have dc := (c9.frS aU (Dj.symm bB))
      refine mr_ 26 1 (.slice a55 am ai) dc (es_ 1 ?_)
      have gl := (c_.frS aU (Dj.symm b8))
      refine mr_ 3 0 (i_ ((gt (gt D e) O).1)) gl (es_ 1 (mr_ 26 1 (.slice a55 am ai) dc (es_ 1 ?_)))
      obtain ⟨co, fV⟩ := Zb fU
      have e2 := (t_ (t_ (t_ (t_ (t_ (t_ (t_ (t_ Y.n ab.n) ap.n) al.n) U.n) ao.n) Z.n) V.n) ae.n)
      have dC := (aF.djn (aq.lt.le e2))
      have ca := (aX.djn ac.lt)
      have bx := ((((bP.ext aB).fr aC dC).fr aT (aA.djn aq.lt)).fr aU (Dj.symm ca))
      refine bx.sq.mx_ 26 az.1 co (me_ 3 0 (i_ (gt b1 e)) bx.sq az.1 co ?_)
      obtain ⟨dV, fW⟩ := Zb fV
      refine d_w (((gt b1 e) + 1)) (k := .i64) (x := ((gt b1 e) + 1)) (by kernel_rfl) (Zo dV) ?_
      obtain ⟨cp, fX⟩ := Zb fW
      refine bx.sq.mx_ 26 aJ.1 cp ?_
      obtain ⟨gI, fj, bF, d7⟩ := Ow.store (P := Tryz.prog) (t := 3) (off := 0) aU.wf bx aJ.1 cp (i_ ((gt b1 e) + 1)) [i_ ((gt b1 e) + 1)] (by kernel_rfl) (by kernel_rfl) rfl ((gt b1 e) + 1) (Nat.le_of_ble_eq_true rfl) (by kernel_rfl)
      refine fk_ fj (ZL) ?_
      refine ZK ?_
      refine cF _ _ (g_' ?_)
      obtain ⟨dW, fY⟩ := Zb fX
      refine w_' ((O + 1)) (Zo (by have := dW; omega)) (qs_ 1 (Za ?_))
      have gm := (d6.fr bF ca)
      have dD := (aA.djn aq.lt)
      have gn := ((d5.fr aU (Dj.symm b_)).fr bF (Dj.symm dD))
      obtain rfl := oi_ fY
      exact cE cK _ _ lt_ ⟨(b0.set ((gt (gt D e) O).1).toNat ((gt b0 e) + ((gt (gt D e) O).2))), (b1.set ((gt (gt D e) O).1).toNat ((gt b1 e) + 1)), (b2.set ((gt (gt D e) O).1).toNat true), (O + 1), bM, ha_, (fs_ V.wf (fs_ V.wf (fs_ V.wf (fs_ V.wf ((fs_ V.wf (fr_ V.wf) ae ir_).extR aB) aC (aF.fresh ae.n)) aT (Inn.right (Inn.right ir_))) aU Inn.left) bF (Inn.right Inn.left)), gm, d7, gn⟩
     have fZ := ZM bK cR
     refine Zg (cF _ _ (g_' ?_))
     obtain ⟨dX, f1⟩ := Zb fZ
     refine w_' ((O + 1)) (Zo (by have := dX; omega)) (qs_ 1 (Za ?_))
     have e3 := (t_ (t_ (t_ (t_ (t_ (t_ (t_ (t_ Y.n ab.n) ap.n) al.n) U.n) ao.n) Z.n) V.n) ae.n)
     have dE := (aF.djn (aq.lt.le e3))
     have go := ((bP.ext aB).fr aC dE)
     have e4 := (t_ (t_ (t_ (t_ (t_ (t_ (t_ ab.n ap.n) al.n) U.n) ao.n) Z.n) V.n) ae.n)
     have dF := (aF.djn (au.lt.le e4))
     have gp := ((bv.ext aB).fr aC dF)
     obtain rfl := oi_ f1
     exact cE cK _ _ lt_ ⟨b0, b1, b2, (O + 1), bM, ha_, (fs_ V.wf ((fs_ V.wf (fr_ V.wf) ae ir_).extR aB) aC (aF.fresh ae.n)), a2, go, gp⟩
    have f2 := Zi be bh
    refine ZH (Zj (Zj (ZT ?_)))
    obtain rfl := oi_ f2
    obtain rfl := Zv bM
    exact et _ _ ⟨ha_, (fs_ V.wf (fr_ V.wf) ae ir_), cG, bP, bv⟩
   obtain ⟨cv, ce, eJ, eK, eL⟩ := hM
   obtain ⟨β, rfl⟩ := Zk cv
   clear cv
   refine cC _ _ (g_' (qs_ 1 ?_))
   obtain ⟨dY, f3⟩ := Zb fH
   refine w_' ((count8 + 1)) (Zo dY) (qs_ 1 (Za ?_))
   have dG := (af.djn au.lt)
   have e5 := (t_ aa.n Y.n)
   have dH := (af.djn (ac.lt.le e5))
   have gq := (bL.fr ce (Dj.app (Dj.symm dH) (Dj.app (Dj.symm bC) (Dj.symm dG))))
   obtain rfl := oi_ f3
   exact cB cI _ _ lt_ ⟨aN.1, aN.2.1, aN.2.2, (ay.set e.toNat true), (count8 + 1), bs, ha_, (fs_ U.wf (fs_ U.wf (fs_ U.wf (fs_ U.wf (fr_ U.wf) ao ir_) Z in_) V (Inn.right (Inn.right (Inn.right ir_)))) ce (Inn.app Inn.left (Inn.app (Inn.right Inn.left) (Inn.right (Inn.right Inn.left))))), eJ, eK, eL, gq⟩
  have f4 := Zi bG bg
  refine ZH (Zj (Zj (ZT ?_)))
  obtain rfl := oi_ f4
  obtain rfl := Zv bs
  exact cA _ _ ⟨ha_, (fs_ U.wf (fr_ U.wf) ao ir_), aY, bt, bi, bu⟩
 obtain ⟨cq, bl, eF, eG, eH, eI⟩ := hM
 obtain ⟨β, rfl⟩ := Zk cq
 clear cq
 refine eh _ _ (sq_ fun eD => g_' ?_)
 have dI := (aw.djn aK.lt)
 have e6 := (t_ Y.n ab.n)
 have dJ := (aw.djn (aq.lt.le e6))
 have e7 := (t_ (t_ aa.n Y.n) ab.n)
 have dK := (aw.djn (ac.lt.le e7))
 have gr := ((bS.frS U (Dj.symm aM)).frS bl (Dj.app (Dj.symm dK) (Dj.app (Dj.symm dJ) (Dj.app (Dj.symm aM) (Dj.symm dI)))))
 refine lr_ 171 0 (.agg #[.slice a45 ag ad, .slice a55 am ai, .slice ah an aj, .slice a77 ax av]) gr ?_
 have e8 := (t_ (t_ (t_ ak.n aa.n) Y.n) ab.n)
 have dL := (aw.djn (aO.ltF.le e8))
 have e9 := (t_ ak.n aa.n)
 have bE := (aA.djn (aO.ltF.le e9))
 have e_ := (t_ (t_ ak.n aa.n) Y.n)
 have cc := (af.djn (aO.ltF.le e_))
 have cd := (aX.djn (aO.ltF.le ak.n))
 have gs := ((((((((aO.ext ak).ext aa).ext Y).ext ab).ext ap).frS al dL).frS U bE).frS bl (Dj.app (bf.djn aO.ltF) (Dj.app cd (Dj.app bE cc))))
 obtain ⟨dg, fm, a_, f5⟩ := ra_ 171 0 bl.wf gs [.slice a45 ag ad, .slice a55 am ai, .slice ah an aj, .slice a77 ax av] [.slice a45 ag ad, .slice a55 am ai, .slice ah an aj, .slice a77 ax av]
 refine ek_ fm (Za (eD _ _ ?_))
 refine Zh ?_
 refine Zac (vs := [.agg #[.slice a45 ag ad, .slice a55 am ai, .slice ah an aj, .slice a77 ax av]]) (ZQ (Eq.trans (b := aL_ 171 (pt_ aL 0) dg) (by kernel_rfl) (f5.l_)) (rfl)) ?_
 have fa := (t_ (t_ (t_ (t_ ar.n ak.n) aa.n) Y.n) ab.n)
 have bR := (t_ (t_ ar.n ak.n) aa.n)
 have cL := (t_ (t_ (t_ ar.n ak.n) aa.n) Y.n)
 have cM := (t_ ar.n ak.n)
 have dM := (bf.djn aO.ltF)
 have gu := (eF.fr a_ (Dj.symm dM))
 have gv := (eG.fr a_ (Dj.symm cd))
 have gw := (eH.fr a_ (Dj.symm bE))
 have gx := (eI.fr a_ (Dj.symm cc))
 have dN := (aX.djn ac.lt)
 have dO := (aA.djn (ac.lt.le aa.n))
 have dP := (aA.djn aq.lt)
 have fb := (t_ aa.n Y.n)
 have dQ := (af.djn (ac.lt.le fb))
 have dR := (af.djn (aq.lt.le Y.n))
 have dS := (af.djn au.lt)
 obtain rfl := oi_ fu
 exact ⟨(.slice a45 ag ad), aD, (.slice a55 am ai), f50, (.slice ah an aj), aE, (.slice a77 ax av), aV, rfl, (fs_ a6 (fs_ a6 (fs_ a6 (fs_ a6 (((((((f0_ a6).extR ar).extR ak).extR aa).extR Y).extR ab).extR ap) al (aw.fresh fa)) U (aA.fresh bR)) bl (Inn.app (bf.fresh ar.n) (Inn.app (aX.fresh cM) (Inn.app (aA.fresh bR) (af.fresh cL))))) a_ (dZ.fresh (Nat.le_refl _))), gu, gv, gw, gx, (bf.fresh ar.n), (aX.fresh cM), (aA.fresh bR), (af.fresh cL), (Dj.symm dN), (Dj.symm dO), (Dj.symm dP), (Dj.symm dQ), (Dj.symm dR), (Dj.symm dS)⟩
theorem Zgk {H : AH} {an : Value} {bE : Fp} {ao : Value} {bF : Fp} {ay : Value} {bG : Fp} {aG : List (Bool)} {Arcs : List (Int × Int × Int × Int)} {u : Int} {skip : Int} {goals : List (Int)} {most : Int} {hops : Int} {settles : Int} {r : List (Int)}
    (ab : WF H) (aU : Sq Zaz 1 H an aG bE) (aV : Sq Zn 4 H ao Arcs bF) (aW : Sq (Zai .i64) 1 H ay goals bG) (a7 : Zca aG Arcs u skip goals most hops settles = some r) :
    ACalls Tryz.prog 54 #[.agg #[an, ao], i_ u, i_ skip, ay, .int .u64 most, i_ hops, i_ settles] H fun v H' => ∃ (bo : Value) (aR : Fp), v = bo /\ FrS [] H H' /\ Ow (Zai .u64) 1 H' bo r aR /\ Inn [] H aR := by
 refine ab_ Tryz.func54 ?_
 unfold Zca at a7
 refine sq_ fun bY => g_' ?_
 refine ZaK ab [an, ao] (Zu (aU.one1) (Zu (aV.one1) (Z1))) (by kernel_rfl) fun cP cK V c7 cd => ?_
 refine qs_ 1 (Za (bY _ _ (sq_ fun bW => g_' (lr_ 34 0 (.agg #[an, ao]) cd (qs_ 1 ?_)))))
 have cw := (aU.ext V)
 have cx := (aV.ext V)
 obtain ⟨dw, bQ, cm⟩ := bs_ a7
 refine ck_ (Zgm V.wf cw cx bQ) ?_
 rintro dn cH ⟨_, f20, rfl, ac, ba, c_⟩
 obtain ⟨cO, dg, cS, rfl⟩ := ba.form
 refine qs_ 4 ?_
 obtain ⟨Y, bR, cq⟩ := bs_ cm
 refine ck_ (ZgA ac.wf ba bR) ?_
 rintro _ cI ⟨dp, c3, dq, c4, dr, c5, dt, c6, rfl, ad, aA, bb, aB, bc, da, db, dc, dd, cT, cU, cV, cW, cX, cY⟩
 obtain ⟨au, aC, av, rfl⟩ := aA.form
 obtain ⟨aK, bj, aP, rfl⟩ := bb.form
 obtain ⟨a66, aD, aw, rfl⟩ := aB.form
 obtain ⟨aL, bk, aQ, rfl⟩ := bc.form
 refine rk_ ad.wf [.slice none 0 0, .slice none 0 0, .slice none 0 0, .slice none 0 0] fun bv cJ U am cr => ?_
 have du := (bc.ext U)
 have cA := (aB.ext U)
 have dv := (bb.ext U)
 have cB := (aA.ext U)
 obtain ⟨ah, cc, D, cu⟩ := ra_ 171 0 U.wf cr [.slice au aC av, .slice aK bj aP, .slice a66 aD aw, .slice aL bk aQ] [.slice au aC av, .slice aK bj aP, .slice a66 aD aw, .slice aL bk aQ]
 refine ek_ cc (Za (bW _ _ (sn_ (sq_ fun bZ => sq_ fun b5 => g_' (qs_ 1 ?_)))))
 have bl := (t_ (t_ V.n ac.n) ad.n)
 have bx := (am.djn (aW.lt.le bl))
 have bt := (((((aW.ext V).fr ac dn_).fr ad dn_).ext U).fr D bx)
 refine bt.ln_ 26 (qs_ 1 (Za (b5 _ _ ?_)))
 obtain ⟨bm, bP, cv⟩ := bs_ cq
 refine ZC (fun α ar => ∃ (aF : Value) (ak : Fp), Has α [(16, aF)] /\ FrS [] ah ar /\ Ow (Zai .u64) 1 ar aF bm ak /\ Inn [] ah ak) (fun _ bT => ?_) (fun α ar hM => ?_)
 ·refine Zl ?_
  obtain ⟨be, bO⟩ := Zt.1 bP
  refine ZI (fun n α aq => ∃ (aa : List (Int)), ∃ (e : Int), ∃ (aE : Value), ∃ (al : Fp), ZO (fun zz_ => Zbm goals Y zz_.1 zz_.2) n (aa, e) = some bm /\ Has α [(15, pt_ bv 0), (16, aE), (27, ay), (28, i_ (goals.length : Int)), (29, i_ e)] /\ FrS [] ah aq /\ Ow (Zai .u64) 1 aq aE aa al /\ Inn [] ah al) be ⟨[], 0, (.slice none 0 0), [], bO, ha_, (fr_ D.wf), (Ow.nil (by decide)), in_⟩ ?_
  rintro be α aq ⟨aa, e, aE, al, bN, aY, O, ap, ag⟩ cL a8
  obtain ⟨bf, cC, rfl, af, az⟩ := Zx bN
  obtain ⟨β, rfl⟩ := Zk aY
  clear aY
  replace af : Zbm goals Y aa e = some cC := af
  unfold Zbm at af
  obtain ⟨bu, b6, bw, rfl⟩ := ap.form
  refine sn_ (sq_ fun bU => ?_)
  refine wc_ (e < (goals.length : Int)) (fun ae => ?_) fun ae => ?_
  ·have ce := Ze ae af
   refine Zg (bU _ _ (sq_ fun a_ => Zl (sq_ fun bV => g_' ?_)))
   obtain ⟨aS, cf⟩ := Zb ce
   have bp := (bt.fr O dn_)
   refine bp.ix_ 26 aS ae (le_ 3 0 (i_ (gt goals e)) bp aS ae (qs_ 1 (Za (bV _ _ (sq_ fun bX => g_' (qs_ 1 ?_))))))
   have bq := (cu.frS O dn_)
   refine lr_ 31 2 (.slice a66 aD aw) bq (qs_ 1 ?_)
   obtain ⟨Z, bn⟩ := Zb cf
   have br := ((cA.fr D (am.djn aB.lt)).fr O dn_)
   refine br.sq.ix_ 31 Z.1 Z.2 (le_ 4 0 (.bool (gt Y.2.2.1 (gt goals e))) br.sq Z.1 Z.2 (Za (bX _ _ ?_)))
   refine wb_ ((gt Y.2.2.1 (gt goals e))) (fun ax => ?_) fun ax => ?_
   ·have cg := Ze ax bn
    refine g_' (qs_ 2 (lr_ 135 0 (.slice au aC av) bq (qs_ 1 ?_)))
    obtain ⟨aT, ch⟩ := Zb cg
    have bs := ((cB.fr D (am.djn aA.lt)).fr O dn_)
    refine bs.sq.ix_ 135 Z.1 aT (le_ 61 0 (.int .u64 (gt Y.1 (gt goals e))) bs.sq Z.1 aT ?_)
    refine Zbo (enc := (Zai .u64)) (sz := 1) O.wf [(gt Y.1 (gt goals e))] 1 (by decide) (fun _ _ => rfl) (fun _ _ => rfl) rfl (by kernel_rfl) fun dh cZ cD ai c8 aZ => ?_
    obtain ⟨cM, de, cQ, rfl⟩ := aZ.form
    have cy := (ap.ext ai)
    obtain ⟨bH, ci⟩ := Zb ch
    obtain ⟨di, cE, bC, b_, bz, a1, bL⟩ := Ow.append (P := Tryz.prog) 8 ai.wf cy aZ.sq (fun _ _ => rfl) (at_ := #[135, 135]) rfl rfl (by kernel_rfl) (by kernel_rfl) (by decide) (by have := bH; first | omega | (simp only [List.length_cons, List.length_nil] at this ⊢; omega) | (simp at this ⊢; omega))
    obtain ⟨aH, bg, aM, rfl⟩ := a1.form
    refine ZaL (.slice aH bg aM) (by kernel_rfl) (b_) ?_
    refine qs_ 1 (Za (a_ _ _ (g_' ?_)))
    obtain ⟨bI, cj⟩ := Zb ci
    refine w_' ((e + 1)) (Zo (by have := bI; omega)) (qs_ 1 (Za ?_))
    have b7 := (t_ O.n ai.n)
    obtain rfl := oi_ cj
    exact a8 bf _ _ lt_ ⟨(aa ++ [(gt Y.1 (gt goals e))]), (e + 1), (.slice aH bg aM), bC, az, ha_, (fs_ D.wf ((fs_ D.wf (fr_ D.wf) O in_).extR ai) bz (ag.fresh (Nat.le_refl _))), a1, (Inn.trans (ag.fresh (Nat.le_refl _)) b7 bL)⟩
   have ck := ZM ax bn
   refine g_' (qs_ 1 ?_)
   refine Zbo (enc := (Zai .u64)) (sz := 1) O.wf [18446744073709551615] 1 (by decide) (fun _ _ => rfl) (fun _ _ => rfl) rfl (by kernel_rfl) fun dk c0 cF aj c9 a2 => ?_
   obtain ⟨cN, df, cR, rfl⟩ := a2.form
   have cz := (ap.ext aj)
   obtain ⟨bJ, cn⟩ := Zb ck
   obtain ⟨dm, cG, bD, ca, bA, a6, bM⟩ := Ow.append (P := Tryz.prog) 8 aj.wf cz a2.sq (fun _ _ => rfl) (at_ := #[135, 135]) rfl rfl (by kernel_rfl) (by kernel_rfl) (by decide) (by have := bJ; first | omega | (simp only [List.length_cons, List.length_nil] at this ⊢; omega) | (simp at this ⊢; omega))
   obtain ⟨aI, bh, aN, rfl⟩ := a6.form
   refine ZaL (.slice aI bh aN) (by kernel_rfl) (ca) ?_
   refine qs_ 1 (Za (a_ _ _ (g_' ?_)))
   obtain ⟨bK, co⟩ := Zb cn
   refine w_' ((e + 1)) (Zo (by have := bK; omega)) (qs_ 1 (Za ?_))
   have b8 := (t_ O.n aj.n)
   obtain rfl := oi_ co
   exact a8 bf _ _ lt_ ⟨(aa ++ [18446744073709551615]), (e + 1), (.slice aI bh aN), bD, az, ha_, (fs_ D.wf ((fs_ D.wf (fr_ D.wf) O in_).extR aj) bA (ag.fresh (Nat.le_refl _))), a6, (Inn.trans (ag.fresh (Nat.le_refl _)) b8 bM)⟩
  have cp := Zi ae af
  refine ZH (Zj (Zj (ZT ?_)))
  obtain rfl := oi_ cp
  obtain rfl := Zv az
  exact bT _ _ ⟨(.slice bu b6 bw), al, ha_, (fs_ D.wf (fr_ D.wf) O in_), ap, (ag.fresh (Nat.le_refl _))⟩
 obtain ⟨aF, ak, aX, bB, bd, bS⟩ := hM
 obtain ⟨β, rfl⟩ := Zk aX
 clear aX
 obtain ⟨aJ, bi, aO, rfl⟩ := bd.form
 refine bZ _ _ (sn_ ?_)
 refine Zh ?_
 refine br_ [.slice aJ bi aO] ?_
 have b9 := (t_ (t_ (t_ (t_ V.n ac.n) ad.n) U.n) D.n)
 obtain rfl := oi_ cv
 exact ⟨(.slice aJ bi aO), ak, rfl, (fs_ ab (fs_ ab ((fs_ ab (fs_ ab ((f0_ ab).extR V) ac in_) ad in_).extR U) D (am.fresh bl)) bB in_), bd, (bS.fresh b9)⟩
theorem ZfF {H : AH} {ag : Value} {aH : Fp} {Y : Value} {aI : Fp} {ai : List (Bool)} {Arcs : List (Int × Int × Int × Int)} {u : Int} {w : Int} {r : Int × Bool}
    (U : WF H) (aL : Sq Zaz 1 H ag ai aH) (an : Sq Zn 4 H Y Arcs aI) (aq : ZbD ai Arcs u w = some r) :
    ACalls Tryz.prog 55 #[.agg #[ag, Y], i_ u, i_ w] H fun v H' => v = .tuple #[.int .u64 r.1, .bool r.2] /\ FrS [] H H' := by
 refine ab_ Tryz.func55 ?_
 unfold ZbD at aq
 refine sq_ fun k1 => g_' ?_
 refine ZaK U [ag, Y] (Zu (aL.one1) (Zu (an.one1) (Z1))) (by kernel_rfl) fun b2 al D bi a6 => ?_
 refine qs_ 2 (Za (k1 _ _ (sq_ fun aV => sq_ fun aW => g_' (qs_ 1 (lr_ 32 1 (Y) a6 ?_)))))
 have aD := (an.ext D)
 refine aD.ln_ 32 (qs_ 1 (Za (aW _ _ ?_)))
 obtain ⟨aF, aP, aA⟩ := bs_ aq
 refine ZC (fun α aj => ∃ az, aF = Sum.inr az /\ Has α [] /\ FrS [] al aj) (fun _ aR => ?_) (fun α aj hM => ?_)
 ·refine Zl ?_
  obtain ⟨ax, aN⟩ := Zt.1 aP
  refine ZI (fun n α ak => ∃ (e : Int), ZO (fun zz_ => ZaW Arcs u w zz_) n e = some aF /\ Has α [(1, i_ u), (2, i_ w), (11, Y), (12, i_ (Arcs.length : Int)), (13, i_ e)] /\ FrS [] al ak) ax ⟨0, aN, ha_, (fr_ D.wf)⟩ ?_
  rintro ax α ak ⟨e, aM, ap, O⟩ bg au
  obtain ⟨ay, bd, rfl, Z, ab⟩ := Zx aM
  obtain ⟨β, rfl⟩ := Zk ap
  clear ap
  replace Z : ZaW Arcs u w e = some bd := Z
  unfold ZaW at Z
  refine sn_ (sq_ fun aS => ?_)
  refine wc_ (e < (Arcs.length : Int)) (fun V => ?_) fun V => ?_
  ·have aZ := Ze V Z
   refine Zg (aS _ _ (sq_ fun av => Zl (sq_ fun aT => g_' ?_)))
   obtain ⟨am, aB⟩ := Zb aZ
   have aE := (aD.fr O dn_)
   refine aE.ix_ 32 am V (le_ 75 0 (.agg #[i_ ((gt Arcs e).1), i_ ((gt Arcs e).2.1), .int .u64 ((gt Arcs e).2.2.1), i_ ((gt Arcs e).2.2.2)]) aE am V ?_)
   refine rk_ O.wf [i_ 0, i_ 0, .int .u64 0, i_ 0] fun bh be aa af a1 => ?_
   obtain ⟨bf, aY, ac, ah⟩ := ra_ 75 0 aa.wf a1 [i_ ((gt Arcs e).1), i_ ((gt Arcs e).2.1), .int .u64 ((gt Arcs e).2.2.1), i_ ((gt Arcs e).2.2.2)] [i_ ((gt Arcs e).1), i_ ((gt Arcs e).2.1), .int .u64 ((gt Arcs e).2.2.1), i_ ((gt Arcs e).2.2.2)]
   refine ek_ aY (Za (aT _ _ (sq_ fun aw => g_' (qs_ 1 (lr_ 3 0 (i_ ((gt Arcs e).1)) ah (qs_ 1 ?_))))))
   refine sb_ (((gt Arcs e).1) = u) (fun ad => ?_) fun ad => ?_
   ·have aC := Ze ad aB
    refine qs_ 2 (lr_ 3 1 (i_ ((gt Arcs e).2.1)) ah (qs_ 3 (Za (aw _ _ ?_))))
    refine wc_ (((gt Arcs e).2.1) = w) (fun ae => ?_) fun ae => ?_
    ·have a2 := Ze ae aC
     refine sq_ fun aU => g_' (qs_ 1 (lr_ 61 2 (.int .u64 ((gt Arcs e).2.2.1)) ah (qs_ 2 (Za (aU _ _ ?_)))))
     refine Zh (ZD (Zf (Zf (ZD (Zf (Zf ?_))))))
     obtain ⟨v55, ar, aQ⟩ := map_some a2
     subst aQ
     obtain rfl := Zv ab
     have aO := elim_inl aA
     rw [aO] at ar
     refine br_ [.int .u64 ((gt Arcs e).2.2.1), .bool true] ?_
     have aX := (t_ D.n O.n)
     obtain rfl := oi_ ar
     exact ⟨rfl, (fs_ U ((fs_ U ((f0_ U).extR D) O in_).extR aa) ac (af.fresh aX))⟩
    have a7 := Zi ae aC
    refine Zg (av _ _ (g_' ?_))
    obtain ⟨aJ, a8⟩ := Zb a7
    refine w_' ((e + 1)) (Zo (by have := aJ; omega)) (qs_ 1 (Za ?_))
    obtain rfl := oi_ a8
    exact au ay _ _ lt_ ⟨(e + 1), ab, ha_, (fs_ D.wf ((fs_ D.wf (fr_ D.wf) O in_).extR aa) ac (af.fresh O.n))⟩
   have a_ := Zi ad aB
   refine qs_ 6 (Za (aw _ _ ?_))
   refine wb_ false (fun h => by cases h) fun _ => ?_
   refine Zg (av _ _ (g_' ?_))
   obtain ⟨aK, ba⟩ := Zb a_
   refine w_' ((e + 1)) (Zo (by have := aK; omega)) (qs_ 1 (Za ?_))
   obtain rfl := oi_ ba
   exact au ay _ _ lt_ ⟨(e + 1), ab, ha_, (fs_ D.wf ((fs_ D.wf (fr_ D.wf) O in_).extR aa) ac (af.fresh O.n))⟩
  have bb := Zi V Z
  refine ZH (Zj (Zj (ZT ?_)))
  obtain rfl := oi_ bb
  obtain rfl := Zv ab
  exact aR _ _ ⟨_, rfl, trivial, (fs_ D.wf (fr_ D.wf) O in_)⟩
 obtain ⟨az, rfl, ao, aG⟩ := hM
 have bc := elim_inr aA
 obtain ⟨β, rfl⟩ := Zk ao
 clear ao
 refine aV _ _ (sn_ ?_)
 refine Zh ?_
 refine br_ [.int .u64 0, .bool false] ?_
 obtain rfl := oi_ bc
 exact ⟨rfl, (fs_ U ((f0_ U).extR D) aG in_)⟩
end Go.Vd
