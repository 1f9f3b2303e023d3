/- The walks of the functions (printed by a program of ours). -/
import Derived.Test.YtmcecdjpconioaaGreatDoorPsc4
import Derived.Test.YtmcecdjpconioaaGreatDoorPscISc
import Derived.Test.YtmcecdjpconioaaGreatDoorPscVeN
import Derived.Test.YtmcecdjpconioaaGreatDoorPscSoA
import Derived.Test.YtmcecdjpconioaaGreatDoorPscVeV
set_option linter.unusedVariables false
set_option linter.unusedSimpArgs false
set_option linter.unusedSectionVars false
/-! (KSc10) -/

set_option maxRecDepth 100000
set_option maxHeartbeats 4000000
set_option linter.unusedVariables false
namespace Go.Vd
open Go.Proofs
attribute [local irreducible] Zp Zq aWp
theorem ZfQ {H : AH} {az : Value} {ec : Fp} {aA : Value} {ed : Fp} {aC : List (Bool)} {Arcs : List (Int × Int × Int × Int)} {an : Int} {a_ : Int} {ba : Int} {a1 : Int} {aY : Int} {aZ : Int} {r : List (Int × Int × Int)}
    (aX : WF H) (bm : Sq Zaz 1 H az aC ec) (bn : Sq Zn 4 H aA Arcs ed) (cN : ZbF aC Arcs an a_ ba a1 aY aZ = some r) :
    ACalls Tryz.prog 28 #[.agg #[az, aA], i_ an, .agg #[i_ a_, i_ ba, i_ a1, i_ aY, i_ aZ]] H fun v H' => ∃ (dq : Value) (cq : Fp), v = dq /\ FrS [] H H' /\ Ow ZA 3 H' dq r cq /\ Inn [] H cq := by
 refine ab_ Tryz.func28 ?_
 unfold ZbF at cN
 refine sq_ fun e3 => g_' ?_
 refine ZaK aX [az, aA] (Zu (bm.one1) (Zu (bn.one1) (Z1))) (by kernel_rfl) fun aF gH ay g2 bP => ?_
 refine rl_ ay.wf [i_ a_, i_ ba, i_ a1, i_ aY, i_ aZ] fun gQ gx ak g3 fF => ?_
 refine qs_ 1 (Za (e3 _ _ (sq_ fun eP => g_' (lr_ 28 0 (.agg #[i_ a_, i_ ba, i_ a1, i_ aY, i_ aZ]) fF ?_))))
 obtain ⟨ac, eD, fJ⟩ := bs_ cN
 refine ck_ (ZfT ak.wf eD) ?_
 rintro _ gD ⟨rfl, al⟩
 refine qs_ 5 (Za (eP _ _ (sn_ (sq_ fun eS => sq_ fun eT => g_' ?_))))
 have dC := ((bP.ext ak).frS al dn_)
 refine lr_ 34 0 (.agg #[az, aA]) dC (qs_ 1 ?_)
 have dD := (((bm.ext ay).ext ak).fr al dn_)
 have dF := (((bn.ext ay).ext ak).fr al dn_)
 obtain ⟨D, eF, fT⟩ := bs_ fJ
 refine ck_ (Zg4 al.wf dD dF eF) ?_
 rintro hh a8 ⟨_, g0, rfl, ab, bM, g8⟩
 obtain ⟨aE, aN, aG, rfl⟩ := bM.form
 refine bM.sq.ln_ 94 (qs_ 1 (Za (eT _ _ ?_)))
 obtain ⟨dh, eB, gc⟩ := bs_ fT
 refine ZC (fun α bx => ∃ (bX : Value) (bk : Fp), Has α [(9, bX)] /\ FrS [] a8 bx /\ Ow ZA 3 bx bX dh bk /\ Inn [] a8 bk) (fun _ e2 => ?_) (fun α bx hM => ?_)
 ·refine Zl ?_
  obtain ⟨df, ey⟩ := Zt.1 eB
  refine ZI (fun n α bz => ∃ (e : Int), ∃ (l7 : List (Int × Int × Int)), ∃ (bY : Value), ∃ (aq : Fp), ZO (fun zz_ => ZaY aC Arcs an ac D zz_.1 zz_.2) n (e, l7) = some dh /\ Has α [(1, i_ an), (3, pt_ aF 0), (7, i_ ac.1), (8, i_ ac.2), (9, bY), (30, .slice aE aN aG), (31, i_ (D.length : Int)), (32, i_ e)] /\ FrS [] a8 bz /\ Ow ZA 3 bz bY l7 aq /\ Inn [] a8 aq) df ⟨0, [], (.slice none 0 0), [], ey, ha_, (fr_ ab.wf), (Ow.nil (by decide)), in_⟩ ?_
  rintro df α bz ⟨e, l7, bY, aq, ev, cG, ai, au, aL⟩ gM e4
  obtain ⟨fv, gw, rfl, aU, cM⟩ := Zx ev
  obtain ⟨β, rfl⟩ := Zk cG
  clear cG
  replace aU : ZaY aC Arcs an ac D e l7 = some gw := aU
  unfold ZaY at aU
  obtain ⟨bb, br, bd, rfl⟩ := au.form
  refine sn_ (sq_ fun e5 => ?_)
  refine wc_ (e < (D.length : Int)) (fun aR => ?_) fun aR => ?_
  ·have gd := Ze aR aU
   refine Zg (e5 _ _ (sq_ fun e6 => Zl (sq_ fun e7 => g_' ?_)))
   obtain ⟨cx, ge⟩ := Zb gd
   have dK := (bM.fr ai dn_)
   refine dK.sq.ix_ 94 cx aR (le_ 99 0 (.agg #[i_ ((gt D e).1), .int .u64 ((gt D e).2.1), i_ ((gt D e).2.2)]) dK.sq cx aR ?_)
   refine rk_ ai.wf [i_ 0, .int .u64 0, i_ 0] fun bc gI am aK bs => ?_
   obtain ⟨gJ, fB, ae, dp⟩ := ra_ 99 0 am.wf bs [i_ ((gt D e).1), .int .u64 ((gt D e).2.1), i_ ((gt D e).2.2)] [i_ ((gt D e).1), .int .u64 ((gt D e).2.1), i_ ((gt D e).2.2)]
   refine ek_ fB (Za (e7 _ _ (sn_ (sn_ (sn_ (sq_ fun e8 => sq_ fun e9 => g_' ?_))))))
   have fw := (t_ (t_ (t_ ak.n al.n) ab.n) ai.n)
   have dQ := (aK.djn (bP.ltF.le fw))
   have dr := ((((dC.frS ab dn_).frS ai dn_).ext am).frS ae dQ)
   refine lr_ 34 0 (.agg #[az, aA]) dr (qs_ 1 ?_)
   have cX := (t_ (t_ (t_ (t_ ay.n ak.n) al.n) ab.n) ai.n)
   have dR := (aK.djn (bm.lt.le cX))
   have dt := ((((dD.fr ab dn_).fr ai dn_).ext am).fr ae dR)
   have dS := (aK.djn (bn.lt.le cX))
   have du := ((((dF.fr ab dn_).fr ai dn_).ext am).fr ae dS)
   obtain ⟨U, eC, fC⟩ := bs_ ge
   refine ck_ (ZdP ae.wf dt du eC) ?_
   rintro hb aD ⟨_, gW, rfl, V, bJ, g7⟩
   obtain ⟨dM, e_, dO, rfl⟩ := bJ.form
   refine bJ.sq.ln_ 94 (qs_ 1 (Za (e9 _ _ ?_)))
   obtain ⟨Z, ez, fD⟩ := bs_ fC
   refine ZC (fun α a2 => ∃ (bR : Value) (bh : Fp) (bS : Value) (bi : Fp), Has α [(1, i_ an), (3, pt_ aF 0), (7, i_ ac.1), (8, i_ ac.2), (9, .slice bb br bd), (11, pt_ bc 0), (12, bR), (13, bS), (14, .int .u64 Z.2.2), (30, .slice aE aN aG), (31, i_ (D.length : Int)), (32, i_ e)] /\ FrS [] aD a2 /\ Ow (Zai .i64) 1 a2 bR Z.1 bh /\ Ow (Zai .u64) 1 a2 bS Z.2.1 bi /\ Inn [] aD bh /\ Inn [] aD bi /\ Dj bh bi) (fun _ eL => ?_) (fun α a2 hM => ?_)
   ·refine Zl ?_
    obtain ⟨cY, ew⟩ := Zt.1 ez
    refine ZI (fun n α a6 => ∃ (goals0 : List (Int)), ∃ (weights1 : List (Int)), ∃ (most2 : Int), ∃ (O : Int), ∃ (bT : Value), ∃ (aI : Fp), ∃ (bU : Value), ∃ (aJ : Fp), ZO (fun zz_ => Zau D e U zz_.1 zz_.2.1 zz_.2.2.1 zz_.2.2.2) n (goals0, weights1, most2, O) = some Z /\ Has α [(1, i_ an), (3, pt_ aF 0), (7, i_ ac.1), (8, i_ ac.2), (9, .slice bb br bd), (11, pt_ bc 0), (12, bT), (13, bU), (14, .int .u64 most2), (30, .slice aE aN aG), (31, i_ (D.length : Int)), (32, i_ e), (38, .slice dM e_ dO), (39, i_ (U.length : Int)), (40, i_ O)] /\ FrS [] aD a6 /\ Ow (Zai .i64) 1 a6 bT goals0 aI /\ Ow (Zai .u64) 1 a6 bU weights1 aJ /\ Inn [] aD aI /\ Inn [] aD aJ /\ Dj aI aJ) cY ⟨[], [], 0, 0, (.slice none 0 0), [], (.slice none 0 0), [], ew, ha_, (fr_ V.wf), (Ow.nil (by decide)), (Ow.nil (by decide)), in_, in_, dn_⟩ ?_
    rintro cY α a6 ⟨goals0, weights1, most2, O, bT, aI, bU, aJ, et, cB, af, aB, ax, aV, aW, be⟩ gK cQ
    obtain ⟨cZ, gu, rfl, aS, bH⟩ := Zx et
    obtain ⟨β, rfl⟩ := Zk cB
    clear cB
    replace aS : Zau D e U goals0 weights1 most2 O = some gu := aS
    unfold Zau at aS
    obtain ⟨b6, c0, cf, rfl⟩ := aB.form
    obtain ⟨b7, c3, cg, rfl⟩ := ax.form
    refine sn_ (sq_ fun eM => ?_)
    refine wc_ (O < (U.length : Int)) (fun aP => ?_) fun aP => ?_
    ·have fE := Ze aP aS
     refine Zg (eM _ _ (sq_ fun cR => Zl (sq_ fun eN => g_' ?_)))
     obtain ⟨cr, di⟩ := Zb fE
     have dv := (bJ.fr af dn_)
     refine dv.sq.ix_ 94 cr aP (le_ 99 0 (.agg #[i_ ((gt U O).1), .int .u64 ((gt U O).2.1), i_ ((gt U O).2.2)]) dv.sq cr aP ?_)
     refine rk_ af.wf [i_ 0, .int .u64 0, i_ 0] fun gR gy ag ar fG => ?_
     obtain ⟨gz, fx, ah, bQ⟩ := ra_ 99 0 ag.wf fG [i_ ((gt U O).1), .int .u64 ((gt U O).2.1), i_ ((gt U O).2.2)] [i_ ((gt U O).1), .int .u64 ((gt U O).2.1), i_ ((gt U O).2.2)]
     refine ek_ fx (Za (eN _ _ (sq_ fun eO => g_' (qs_ 1 (lr_ 3 0 (i_ ((gt U O).1)) bQ (qs_ 1 ?_))))))
     have fa := (t_ (t_ ae.n V.n) af.n)
     have dT := (ar.djn (bs.ltF.le fa))
     have dw := ((((dp.frS V dn_).frS af dn_).ext ag).frS ah dT)
     refine lr_ 3 0 (i_ ((gt D e).1)) dw (qs_ 1 (Za (eO _ _ ?_)))
     refine Zdi (((gt U O).1) = ((gt D e).1)) (by kernel_rfl) rfl (fun bC => ?_) (fun bC => ?_)
     ·have fH := Zi bC di
      refine sq_ fun eQ => g_' (qs_ 2 (lr_ 3 0 (i_ ((gt U O).1)) bQ ?_))
      refine Zbo (enc := (Zai .i64)) (sz := 1) ah.wf [(gt U O).1] 1 (by decide) (fun _ _ => rfl) (fun _ _ => rfl) rfl (by kernel_rfl) fun hc gX gA ao g4 cH => ?_
      obtain ⟨gN, g9, gS, rfl⟩ := cH.form
      have gf := (((aB.ext ag).fr ah (ar.djn aB.lt)).ext ao)
      obtain ⟨ee, fI⟩ := Zb fH
      obtain ⟨hd, gB, d_, fy, aH, bG, cy⟩ := Ow.append (P := Tryz.prog) 8 ao.wf gf cH.sq (fun _ _ => rfl) (at_ := #[26, 26]) rfl rfl (by kernel_rfl) (by kernel_rfl) (by decide) (by have := ee; first | omega | (simp only [List.length_cons, List.length_nil] at this ⊢; omega) | (simp at this ⊢; omega))
      obtain ⟨b8, c4, ch, rfl⟩ := bG.form
      refine ZaL (.slice b8 c4 ch) (by kernel_rfl) (fy) ?_
      refine qs_ 1 (Za (eQ _ _ (sq_ fun eR => g_' (qs_ 2 ?_))))
      have dU := (ar.djn aB.lt)
      have dx := ((bQ.ext ao).frS aH (Dj.symm dU))
      refine lr_ 61 1 (.int .u64 ((gt U O).2.1)) dx ?_
      refine Zbo (enc := (Zai .u64)) (sz := 1) aH.wf [(gt U O).2.1] 1 (by decide) (fun _ _ => rfl) (fun _ _ => rfl) rfl (by kernel_rfl) fun he gY gC av g5 cI => ?_
      obtain ⟨gO, g_, gT, rfl⟩ := cI.form
      have gg := (((((ax.ext ag).fr ah (ar.djn ax.lt)).ext ao).fr aH be).ext av)
      obtain ⟨ef, fK⟩ := Zb fI
      obtain ⟨hf, gE, ea, fz, bf, cJ, cz⟩ := Ow.append (P := Tryz.prog) 8 av.wf gg cI.sq (fun _ _ => rfl) (at_ := #[135, 135]) rfl rfl (by kernel_rfl) (by kernel_rfl) (by decide) (by have := ef; first | omega | (simp only [List.length_cons, List.length_nil] at this ⊢; omega) | (simp at this ⊢; omega))
      obtain ⟨b9, c5, ci, rfl⟩ := cJ.form
      refine ZaL (.slice b9 c5 ci) (by kernel_rfl) (fz) ?_
      refine qs_ 1 (Za (eR _ _ (g_' (qs_ 2 ?_))))
      have c6 := (t_ ae.n V.n)
      have dV := (aV.djn (bs.ltF.le c6))
      have dW := (aW.djn (bs.ltF.le c6))
      have gh := ((((dw.ext ao).frS aH dV).ext av).frS bf dW)
      refine lr_ 61 1 (.int .u64 ((gt D e).2.1)) gh (qs_ 1 ?_)
      have dX := (ar.djn ax.lt)
      have gi := ((dx.ext av).frS bf (Dj.symm dX))
      refine lr_ 61 1 (.int .u64 ((gt U O).2.1)) gi ?_
      obtain ⟨eh, fL⟩ := Zb fK
      refine s_w ((((gt D e).2.1) + ((gt U O).2.1))) (k := .u64) (x := (((gt D e).2.1) + ((gt U O).2.1))) (by kernel_rfl) (ZdA eh) ?_
      refine l_' (.int .u64 (max most2 (((gt D e).2.1) + ((gt U O).2.1)))) (Zfr Tryz.prog [.int .u64 most2, .int .u64 (((gt D e).2.1) + ((gt U O).2.1))]) (Ze8 _ _) (qs_ 1 (Za (cR _ _ (g_' ?_))))
      obtain ⟨ej, fM⟩ := Zb fL
      refine w_' ((O + 1)) (Zo (by have := ej; omega)) (qs_ 1 (Za ?_))
      have fb := (t_ (t_ ag.n ah.n) ao.n)
      have cp := (cy.dj be (ax.lt.le fb))
      have gj := ((bG.ext av).fr bf (Dj.symm cp))
      have fc := (t_ (t_ (t_ af.n ag.n) ah.n) ao.n)
      have fd := (t_ (t_ (t_ (t_ (t_ af.n ag.n) ah.n) ao.n) aH.n) av.n)
      have dY := (cz.dj (Dj.symm cp) (bG.lt.le av.n))
      obtain rfl := oi_ fM
      exact cQ cZ _ _ lt_ ⟨(goals0 ++ [(gt U O).1]), (weights1 ++ [(gt U O).2.1]), (max most2 (((gt D e).2.1) + ((gt U O).2.1))), (O + 1), (.slice b8 c4 ch), d_, (.slice b9 c5 ci), ea, bH, ha_, (fs_ V.wf ((fs_ V.wf ((fs_ V.wf ((fs_ V.wf (fr_ V.wf) af in_).extR ag) ah (ar.fresh af.n)).extR ao) aH (aV.fresh (Nat.le_refl _))).extR av) bf (aW.fresh (Nat.le_refl _))), gj, cJ, (Inn.trans (aV.fresh (Nat.le_refl _)) fc cy), (Inn.trans (aW.fresh (Nat.le_refl _)) fd cz), (Dj.symm dY)⟩
     have fN := Ze bC di
     refine Zg (cR _ _ (g_' ?_))
     obtain ⟨ek, fO⟩ := Zb fN
     refine w_' ((O + 1)) (Zo (by have := ek; omega)) (qs_ 1 (Za ?_))
     have gk := ((aB.ext ag).fr ah (ar.djn aB.lt))
     have gl := ((ax.ext ag).fr ah (ar.djn ax.lt))
     obtain rfl := oi_ fO
     exact cQ cZ _ _ lt_ ⟨goals0, weights1, most2, (O + 1), (.slice b6 c0 cf), aI, (.slice b7 c3 cg), aJ, bH, ha_, (fs_ V.wf ((fs_ V.wf (fr_ V.wf) af in_).extR ag) ah (ar.fresh af.n)), gk, gl, (aV.fresh (Nat.le_refl _)), (aW.fresh (Nat.le_refl _)), be⟩
    have fP := Zi aP aS
    refine ZH (Zj (Zj (ZT ?_)))
    obtain rfl := oi_ fP
    obtain rfl := Zv bH
    exact eL _ _ ⟨(.slice b6 c0 cf), aI, (.slice b7 c3 cg), aJ, ha_, (fs_ V.wf (fr_ V.wf) af in_), aB, ax, (aV.fresh (Nat.le_refl _)), (aW.fresh (Nat.le_refl _)), be⟩
   obtain ⟨bR, bh, bS, bi, cA, aj, bK, cU, eH, eI, gV⟩ := hM
   obtain ⟨β, rfl⟩ := Zk cA
   clear cA
   obtain ⟨b_, c7, cj, rfl⟩ := bK.form
   obtain ⟨ca, c8, ck, rfl⟩ := cU.form
   refine e8 _ _ (sq_ fun eU => g_' ?_)
   have dy := ((dr.frS V dn_).frS aj dn_)
   refine lr_ 34 0 (.agg #[az, aA]) dy (qs_ 1 ?_)
   have dz := ((dp.frS V dn_).frS aj dn_)
   refine lr_ 3 0 (i_ ((gt D e).1)) dz (qs_ 5 ?_)
   have dA := ((dt.fr V dn_).fr aj dn_)
   have dB := ((du.fr V dn_).fr aj dn_)
   obtain ⟨bt, eE, fQ⟩ := bs_ fD
   refine ck_ (Zgk aj.wf dA dB bK.sq eE) ?_
   rintro hg a7 ⟨_, gZ, rfl, aa, bL, cP⟩
   obtain ⟨cc, c9, cm, rfl⟩ := bL.form
   refine qs_ 1 (Za (eU _ _ (sq_ fun eV => g_' (qs_ 1 ?_))))
   have dE := (bK.fr aa dn_)
   refine dE.sq.ln_ 26 (qs_ 1 (Za (eV _ _ ?_)))
   obtain ⟨bO, eA, fR⟩ := bs_ fQ
   refine ZC (fun α bv => ∃ (bV : Value) (bj : Fp), Has α [(1, i_ an), (3, pt_ aF 0), (7, i_ ac.1), (8, i_ ac.2), (9, bV), (30, .slice aE aN aG), (31, i_ (D.length : Int)), (32, i_ e)] /\ FrS aq a7 bv /\ Ow ZA 3 bv bV bO bj /\ Inn aq a7 bj) (fun _ eW => ?_) (fun α bv hM => ?_)
   ·refine Zl ?_
    obtain ⟨c_, ex⟩ := Zt.1 eA
    have gm := (((((au.ext am).fr ae (aK.djn au.lt)).fr V dn_).fr aj dn_).fr aa dn_)
    refine ZI (fun n α bw => ∃ (Y : Int), ∃ (aM : List (Int × Int × Int)), ∃ (bW : Value), ∃ (aO : Fp), ZO (fun zz_ => Zat aC Arcs D e Z bt zz_.1 zz_.2) n (Y, aM) = some bO /\ Has α [(1, i_ an), (3, pt_ aF 0), (7, i_ ac.1), (8, i_ ac.2), (9, bW), (11, pt_ bc 0), (13, .slice ca c8 ck), (17, .slice cc c9 cm), (30, .slice aE aN aG), (31, i_ (D.length : Int)), (32, i_ e), (76, .slice b_ c7 cj), (77, i_ (Z.1.length : Int)), (78, i_ Y)] /\ FrS aq a7 bw /\ Ow ZA 3 bw bW aM aO /\ Inn aq a7 aO) c_ ⟨0, l7, (.slice bb br bd), aq, ex, ha_, (fr_ aa.wf), gm, ir_⟩ ?_
    rintro c_ α bw ⟨Y, aM, bW, aO, eu, cD, ad, bq, bo⟩ gL cS
    obtain ⟨da, gv, rfl, aT, bI⟩ := Zx eu
    obtain ⟨β, rfl⟩ := Zk cD
    clear cD
    replace aT : Zat aC Arcs D e Z bt Y aM = some gv := aT
    unfold Zat at aT
    obtain ⟨bA, bN, bB, rfl⟩ := bq.form
    refine sn_ (sq_ fun eX => ?_)
    refine wc_ (Y < (Z.1.length : Int)) (fun aQ => ?_) fun aQ => ?_
    ·have fS := Ze aQ aT
     refine Zg (eX _ _ (sq_ fun cT => Zl (sq_ fun eY => g_' (qs_ 1 ?_))))
     obtain ⟨aw, fU⟩ := Zb fS
     have db := (t_ (t_ am.n ae.n) V.n)
     have dZ := (eH.djn (au.lt.le db))
     have dG := (dE.fr ad (Dj.symm dZ))
     refine dG.sq.ix_ 26 aw aQ (le_ 3 0 (i_ (gt Z.1 Y)) dG.sq aw aQ (qs_ 2 (Za (eY _ _ (sq_ fun eZ => ?_)))))
     refine ZR [0, 1, 2, 3, 4, 5, 6, 7] (by kernel_rfl) ?_
     refine es_ 1 ?_
     have d0 := (aK.djn au.lt)
     have bZ := ((dz.frS aa dn_).frS ad (Dj.symm d0))
     refine mr_ 61 1 (.int .u64 ((gt D e).2.1)) bZ (es_ 2 ?_)
     obtain ⟨cu, fV⟩ := Zb fU
     have d1 := (eI.djn (au.lt.le db))
     have dH := ((cU.fr aa dn_).fr ad (Dj.symm d1))
     refine dH.sq.mx_ 135 aw cu (me_ 61 0 (.int .u64 (gt Z.2.1 Y)) dH.sq aw cu ?_)
     obtain ⟨el, fW⟩ := Zb fV
     refine d_w ((((gt D e).2.1) + (gt Z.2.1 Y))) (k := .u64) (x := (((gt D e).2.1) + (gt Z.2.1 Y))) (by kernel_rfl) (ZdA el) ?_
     refine es_ 1 ?_
     refine ZK ?_
     refine eZ _ _ (sq_ fun e0 => g_' ?_)
     have ff := (t_ (t_ ak.n al.n) ab.n)
     have d2 := (aL.djn (bP.ltF.le ff))
     have gn := ((dy.frS aa dn_).frS ad d2)
     refine lr_ 34 0 (.agg #[az, aA]) gn (qs_ 1 (lr_ 3 0 (i_ ((gt D e).1)) bZ (qs_ 1 ?_)))
     have dc := (t_ (t_ (t_ ay.n ak.n) al.n) ab.n)
     have d3 := (aL.djn (bm.lt.le dc))
     have go := ((dA.fr aa dn_).fr ad d3)
     have d4 := (aL.djn (bn.lt.le dc))
     have gp := ((dB.fr aa dn_).fr ad d4)
     obtain ⟨bu, eG, fX⟩ := bs_ fW
     refine ck_ (ZfF ad.wf go gp eG) ?_
     rintro _ dL ⟨rfl, ap⟩
     refine qs_ 5 (Za (e0 _ _ (sq_ fun e1 => ?_)))
     obtain ⟨dg, cO, dk⟩ := bs_ fX
     refine ZC (fun α b5 => Has α [(1, i_ an), (3, pt_ aF 0), (7, i_ ac.1), (8, i_ ac.2), (9, .slice bA bN bB), (11, pt_ bc 0), (13, .slice ca c8 ck), (17, .slice cc c9 cm), (19, i_ (gt Z.1 Y)), (20, .int .u64 (((gt D e).2.1) + (gt Z.2.1 Y))), (30, .slice aE aN aG), (31, i_ (D.length : Int)), (32, i_ e), (76, .slice b_ c7 cj), (77, i_ (Z.1.length : Int)), (78, i_ Y), (116, .bool dg)] /\ dL = b5) (fun _ bp => ?_) (fun α b5 hM => ?_)
     ·refine g_' (qs_ 1 ?_)
      refine sb_ ((((gt D e).2.1) + (gt Z.2.1 Y)) ≤ 140737488355328) (fun bD => ?_) fun bD => ?_
      ·have dm := Ze bD cO
       refine qs_ 1 (q_ (.bool bu.2) (q_ (.bool bu.2) ?_))
       by_cases bl : bu.2 = true
       ·have dn := Ze bl dm
        rw [bl]
        refine qs_ 2 ?_
        refine sb_ (bu.1 ≤ (((gt D e).2.1) + (gt Z.2.1 Y))) (fun bE => ?_) fun bE => ?_
        ·have fY := Ze bE dn
         refine qs_ 11 (Za ?_)
         obtain rfl := oi_ fY
         exact bp _ _ ⟨ha_, rfl⟩
        have fZ := Zi bE dn
        refine qs_ 6 ?_
        obtain ⟨cv, f0⟩ := Zb fZ
        have fg := (t_ (t_ (t_ am.n ae.n) V.n) aj.n)
        have d5 := (cP.djn (au.lt.le fg))
        have dI := ((bL.fr ad (Dj.symm d5)).fr ap dn_)
        refine dI.sq.ix_ 135 aw cv (le_ 61 0 (.int .u64 (gt bt Y)) dI.sq aw cv (qs_ 3 (Za ?_)))
        obtain rfl := oi_ f0
        exact bp _ _ ⟨ha_, rfl⟩
       have f1 := Zi bl dm
       rw [nb bl]
       refine qs_ 9 ?_
       obtain ⟨cw, f2⟩ := Zb f1
       have fh := (t_ (t_ (t_ am.n ae.n) V.n) aj.n)
       have d6 := (cP.djn (au.lt.le fh))
       have dJ := ((bL.fr ad (Dj.symm d6)).fr ap dn_)
       refine dJ.sq.ix_ 135 aw cw (le_ 61 0 (.int .u64 (gt bt Y)) dJ.sq aw cw (qs_ 3 (Za ?_)))
       obtain rfl := oi_ f2
       exact bp _ _ ⟨ha_, rfl⟩
      have f3 := Zi bD cO
      refine qs_ 17 (Za ?_)
      obtain rfl := oi_ f3
      exact bp _ _ ⟨ha_, rfl⟩
     obtain ⟨cE, rfl⟩ := hM
     obtain ⟨β, rfl⟩ := Zk cE
     clear cE
     refine e1 _ _ ?_
     refine wb_ (dg) (fun bF => ?_) fun bF => ?_
     ·have f4 := Ze bF dk
      refine g_' (qs_ 2 ?_)
      have gq := (bZ.frS ap dn_)
      refine lr_ 3 0 (i_ ((gt D e).1)) gq (qs_ 3 ?_)
      refine Zbo (enc := ZA) (sz := 3) ap.wf [((gt D e).1, (gt Z.1 Y), (((gt D e).2.1) + (gt Z.2.1 Y)))] 1 (by decide) (fun _ _ => rfl) (fun _ _ => rfl) rfl (by kernel_rfl) fun hj g1 gF bg g6 cK => ?_
      obtain ⟨gP, ha, gU, rfl⟩ := cK.form
      have gr := ((bq.fr ap dn_).ext bg)
      obtain ⟨em, f5⟩ := Zb f4
      obtain ⟨hk, gG, eb, fA, d8, cL, es⟩ := Ow.append (P := Tryz.prog) 24 bg.wf gr cK.sq (fun _ _ => rfl) (at_ := #[49, 49]) rfl rfl (by kernel_rfl) (by kernel_rfl) (by decide) (by have := em; first | omega | (simp only [List.length_cons, List.length_nil] at this ⊢; omega) | (simp at this ⊢; omega))
      obtain ⟨cd, dd, cn, rfl⟩ := cL.form
      refine ZaL (.slice cd dd cn) (by kernel_rfl) (fA) ?_
      refine qs_ 1 (Za (cT _ _ (g_' ?_)))
      obtain ⟨eo, f7⟩ := Zb f5
      refine w_' ((Y + 1)) (Zo (by have := eo; omega)) (qs_ 1 (Za ?_))
      have fj := (t_ (t_ ad.n ap.n) bg.n)
      obtain rfl := oi_ f7
      exact cS da _ _ lt_ ⟨(Y + 1), (aM ++ [((gt D e).1, (gt Z.1 Y), (((gt D e).2.1) + (gt Z.2.1 Y)))]), (.slice cd dd cn), eb, bI, ha_, (fs_ aa.wf ((fs_ aa.wf (fs_ aa.wf (fr_ aa.wf) ad ir_) ap in_).extR bg) d8 (Inn.trans ir_ (Nat.le_refl _) bo)), cL, (Inn.trans (Inn.trans ir_ (Nat.le_refl _) bo) fj es)⟩
     have f8 := ZM bF dk
     refine Zg (cT _ _ (g_' ?_))
     obtain ⟨ep, f9⟩ := Zb f8
     refine w_' ((Y + 1)) (Zo (by have := ep; omega)) (qs_ 1 (Za ?_))
     have gs := (bq.fr ap dn_)
     obtain rfl := oi_ f9
     exact cS da _ _ lt_ ⟨(Y + 1), aM, (.slice bA bN bB), aO, bI, ha_, (fs_ aa.wf (fs_ aa.wf (fr_ aa.wf) ad ir_) ap in_), gs, (Inn.trans ir_ (Nat.le_refl _) bo)⟩
    have f_ := Zi aQ aT
    refine ZH (Zj (Zj (ZT ?_)))
    obtain rfl := oi_ f_
    obtain rfl := Zv bI
    exact eW _ _ ⟨(.slice bA bN bB), aO, ha_, (fs_ aa.wf (fr_ aa.wf) ad ir_), bq, (Inn.trans ir_ (Nat.le_refl _) bo)⟩
   obtain ⟨bV, bj, cC, d7, cV, eJ⟩ := hM
   obtain ⟨β, rfl⟩ := Zk cC
   clear cC
   obtain ⟨dN, fm, dP, rfl⟩ := cV.form
   refine e6 _ _ (g_' ?_)
   obtain ⟨eq, ga⟩ := Zb fR
   refine w_' ((e + 1)) (Zo (by have := eq; omega)) (qs_ 1 (Za ?_))
   have fo := (t_ (t_ (t_ (t_ (t_ ai.n am.n) ae.n) V.n) aj.n) aa.n)
   obtain rfl := oi_ ga
   exact e4 fv _ _ lt_ ⟨(e + 1), bO, (.slice dN fm dP), bj, cM, ha_, (fs_ ab.wf (fs_ ab.wf (fs_ ab.wf (fs_ ab.wf (fs_ ab.wf ((fs_ ab.wf (fr_ ab.wf) ai in_).extR am) ae (aK.fresh ai.n)) V in_) aj in_) aa in_) d7 (aL.fresh (Nat.le_refl _))), cV, (Inn.trans (aL.fresh (Nat.le_refl _)) fo eJ)⟩
  have gb := Zi aR aU
  refine ZH (Zj (Zj (ZT ?_)))
  obtain rfl := oi_ gb
  obtain rfl := Zv cM
  exact e2 _ _ ⟨(.slice bb br bd), aq, ha_, (fs_ ab.wf (fr_ ab.wf) ai in_), au, (aL.fresh (Nat.le_refl _))⟩
 obtain ⟨bX, bk, cF, d9, cW, eK⟩ := hM
 obtain ⟨β, rfl⟩ := Zk cF
 clear cF
 obtain ⟨ce, de, co, rfl⟩ := cW.form
 refine eS _ _ (sn_ ?_)
 refine Zh ?_
 refine br_ [.slice ce de co] ?_
 have fu := (t_ (t_ (t_ ay.n ak.n) al.n) ab.n)
 obtain rfl := oi_ gc
 exact ⟨(.slice ce de co), bk, rfl, (fs_ aX (fs_ aX (fs_ aX (((f0_ aX).extR ay).extR ak) al in_) ab in_) d9 in_), cW, (eK.fresh fu)⟩
theorem Zfh {H : AH} {ao : Value} {b_ : Fp} {ap : Value} {ca : Fp} {be : List (Bool)} {Arcs : List (Int × Int × Int × Int)} {aA : Int} {aH : Int} {aI : Int} {aD : Int} {aB : Int} {aC : Int} {r : List (Bool) × List (Int × Int × Int × Int) × List (Int × Int × Int)}
    (ah : WF H) (bm : Sq Zaz 1 H ao be b_) (bn : Sq Zn 4 H ap Arcs ca) (bt : Za4 be Arcs aA aH aI aD aB aC = some r) :
    ACalls Tryz.prog 10 #[.agg #[ao, ap], i_ aA, .agg #[i_ aH, i_ aI, i_ aD, i_ aB, i_ aC]] H fun v H' => ∃ (bG : Value) (aO : Fp) (bH : Value) (aP : Fp) (bF : Value) (aN : Fp), v = .tuple #[.agg #[bG, bH], bF] /\ FrS [] H H' /\ Ow Zaz 1 H' bG r.1 aO /\ Sq Zn 4 H' bH r.2.1 aP /\ Ow ZA 3 H' bF r.2.2 aN /\ Inn [] H aO /\ Inn [] H aP /\ Inn [] H aN /\ Dj aO aP /\ Dj aO aN /\ Dj aP aN := by
 refine ab_ Tryz.func10 ?_
 unfold Za4 at bt
 refine sq_ fun cp => g_' ?_
 refine ZaK ah [ao, ap] (Zu (bm.one1) (Zu (bn.one1) (Z1))) (by kernel_rfl) fun ai dq ae bo ad => ?_
 refine rl_ ae.wf [i_ aH, i_ aI, i_ aD, i_ aB, i_ aC] fun dy dr O dz cY => ?_
 refine rk_ O.wf [.slice none 0 0, .slice none 0 0] fun aW dt V bp az => ?_
 refine qs_ 1 (Za (cp _ _ (sq_ fun cr => g_' ?_)))
 have bL := ((ad.ext O).ext V)
 refine lr_ 34 0 (.agg #[ao, ap]) bL (qs_ 1 ?_)
 have dd := (cY.ext V)
 refine lr_ 28 0 (.agg #[i_ aH, i_ aI, i_ aD, i_ aB, i_ aC]) dd ?_
 have bM := (((bm.ext ae).ext O).ext V)
 have bN := (((bn.ext ae).ext O).ext V)
 obtain ⟨Y, ch, cZ⟩ := bs_ bt
 refine ck_ (ZfQ V.wf bM bN ch) ?_
 rintro dB du ⟨_, f47, rfl, U, av, a6⟩
 obtain ⟨a53, ay, al, rfl⟩ := av.form
 refine qs_ 1 (Za (cr _ _ (sq_ fun cu => g_' ?_)))
 have bO := (bL.frS U dn_)
 refine lr_ 34 0 (.agg #[ao, ap]) bO (qs_ 1 ?_)
 have de := (bM.fr U dn_)
 have df := (bN.fr U dn_)
 obtain ⟨bd, ci, c0⟩ := bs_ cZ
 refine ck_ (Zed U.wf de df ci) ?_
 rintro _ dv ⟨dC, b9, dD, a1, rfl, ab, aw, bx, ar, au, b7⟩
 obtain ⟨a76, aa, Z, rfl⟩ := aw.form
 obtain ⟨aV, a8, aY, rfl⟩ := bx.form
 have dg := (bO.frS ab dn_)
 obtain ⟨aF, cP, e, c3⟩ := ra_ 34 0 ab.wf dg [.slice a76 aa Z, .slice aV a8 aY] [.slice a76 aa Z, .slice aV a8 aY]
 refine ek_ cP (Za (cu _ _ (sq_ fun cv => sq_ fun cw => g_' (qs_ 1 ?_))))
 have cL := (t_ O.n V.n)
 have aZ := (a6.djn (ad.ltF.le cL))
 have bc := ((av.fr ab dn_).fr e (Dj.symm aZ))
 refine bc.sq.ln_ 49 (qs_ 1 (Za (cw _ _ ?_)))
 obtain ⟨bE, cf, c4⟩ := bs_ c0
 refine ZC (fun α aG => ∃ (bb : Value) (aL : Fp), Has α [(3, pt_ ai 0), (6, pt_ aW 0), (8, .slice a53 ay al)] /\ FrS [ai] aF aG /\ Sq Zn 4 aG bb bE aL /\ Row aG ai [.slice a76 aa Z, bb] /\ Inn a1 aF aL) (fun _ cj => ?_) (fun α aG hM => ?_)
 ·refine Zl ?_
  obtain ⟨bA, ce⟩ := Zt.1 cf
  have cz := (t_ (t_ O.n V.n) U.n)
  have bQ := (au.djn (ad.ltF.le cz))
  have c5 := (bx.fr e (Dj.symm bQ))
  refine ZI (fun n α aE => ∃ (D : Int), ∃ (aT : List (Int × Int × Int × Int)), ∃ (ba : Value), ∃ (aM : Fp), ZO (fun zz_ => ZaC aA Y bd zz_.1 zz_.2) n (D, aT) = some bE /\ Has α [(1, i_ aA), (3, pt_ ai 0), (6, pt_ aW 0), (8, .slice a53 ay al), (18, .slice a53 ay al), (19, i_ (Y.length : Int)), (20, i_ D)] /\ FrS [ai] aF aE /\ Sq Zn 4 aE ba aT aM /\ Row aE ai [.slice a76 aa Z, ba] /\ Inn a1 aF aM) bA ⟨0, bd.2, (.slice aV a8 aY), a1, ce, ha_, (fr_ e.wf), c5.sq, c3, ir_⟩ ?_
  rintro bA α aE ⟨D, aT, ba, aM, cd, br, ac, aS, bv, a2⟩ dw ck
  obtain ⟨cy, di, rfl, aq, bs⟩ := Zx cd
  obtain ⟨β, rfl⟩ := Zk br
  clear br
  replace aq : ZaC aA Y bd D aT = some di := aq
  unfold ZaC at aq
  obtain ⟨bf, bB, bg, rfl⟩ := aS.form
  refine sn_ (sq_ fun cm => ?_)
  refine wc_ (D < (Y.length : Int)) (fun an => ?_) fun an => ?_
  ·have cQ := Ze an aq
   refine Zg (cm _ _ (sq_ fun cn => Zl (sq_ fun co => g_' ?_)))
   obtain ⟨bl, cR⟩ := Zb cQ
   have bI := (bc.fr ac (Dj.symm aZ))
   refine bI.sq.ix_ 49 bl an (le_ 63 0 (.agg #[i_ ((gt Y D).1), i_ ((gt Y D).2.1), .int .u64 ((gt Y D).2.2)]) bI.sq bl an ?_)
   refine rk_ ac.wf [i_ 0, i_ 0, .int .u64 0] fun dx dk af aQ cS => ?_
   obtain ⟨dm, cM, ag, a_⟩ := ra_ 63 0 af.wf cS [i_ ((gt Y D).1), i_ ((gt Y D).2.1), .int .u64 ((gt Y D).2.2)] [i_ ((gt Y D).1), i_ ((gt Y D).2.1), .int .u64 ((gt Y D).2.2)]
   refine ek_ cM (Za (co _ _ (g_' ?_)))
   have cA := (t_ (t_ (t_ (t_ (t_ O.n V.n) U.n) ab.n) e.n) ac.n)
   have bR := (aQ.djn (ad.ltF.le cA))
   have bJ := ((bv.ext af).frS ag bR)
   refine lr_ 34 0 (.agg #[.slice a76 aa Z, .slice bf bB bg]) bJ (qs_ 1 (lr_ 3 0 (i_ ((gt Y D).1)) a_ (qs_ 1 (lr_ 3 1 (i_ ((gt Y D).2.1)) a_ (qs_ 1 (lr_ 61 2 (.int .u64 ((gt Y D).2.2)) a_ (qs_ 2 ?_)))))))
   have bC := (t_ (t_ O.n V.n) U.n)
   have bh := (ar.djn (ad.ltF.le bC))
   have cB := (t_ e.n ac.n)
   have bS := (aQ.djn (aw.lt.le cB))
   have bK := ((((aw.fr e (Dj.symm bh)).fr ac (Dj.symm bh)).ext af).fr ag bS)
   have c6 := ((aS.ext af).fr ag (aQ.djn aS.lt))
   obtain ⟨dh, cg, cT⟩ := bs_ cR
   refine ck_ (ZeI ag.wf bK.sq c6 cg) ?_
   rintro _ dn ⟨dA, b8, rfl, aJ, bw, bu⟩
   obtain ⟨aU, a7, aX, rfl⟩ := bw.form
   refine qs_ 3 ?_
   have c7 := (bJ.frS aJ dn_)
   have dE := (bK.fr aJ dn_)
   obtain ⟨dp, cN, bk, cU⟩ := ra_ 34 0 aJ.wf c7 [.slice a76 aa Z, .slice aU a7 aX] [.slice a76 aa Z, .slice aU a7 aX]
   refine ek_ cN (Za (cn _ _ (g_' ?_)))
   obtain ⟨cc, cV⟩ := Zb cT
   refine w_' ((D + 1)) (Zo (by have := cc; omega)) (qs_ 1 (Za ?_))
   have bT := (au.djn (ad.ltF.le bC))
   have cC := (t_ (t_ (t_ (t_ O.n V.n) U.n) ab.n) e.n)
   have bU := (a2.dj bT (ad.ltF.le cC))
   have cD := (t_ (t_ (t_ (t_ (t_ (t_ (t_ O.n V.n) U.n) ab.n) e.n) ac.n) af.n) ag.n)
   have bV := (bu.dj bU (ad.ltF.le cD))
   have c8 := (bw.fr bk (Dj.symm bV))
   have cE := (t_ (t_ ac.n af.n) ag.n)
   obtain rfl := oi_ cV
   exact ck cy _ _ lt_ ⟨(D + 1), dh.1, (.slice aU a7 aX), b8, bs, ha_, (fs_ e.wf (fs_ e.wf (fs_ e.wf ((fs_ e.wf (fr_ e.wf) ac ir_).extR af) ag (aQ.fresh ac.n)) aJ in_) bk ir_), c8, cU, (Inn.trans (Inn.trans ir_ (Nat.le_refl _) a2) cE bu)⟩
  have cW := Zi an aq
  refine ZH (Zj (Zj (ZT ?_)))
  obtain rfl := oi_ cW
  obtain rfl := Zv bs
  exact cj _ _ ⟨(.slice bf bB bg), aM, ha_, (fs_ e.wf (fr_ e.wf) ac ir_), aS, bv, (Inn.trans ir_ (Nat.le_refl _) a2)⟩
 obtain ⟨bb, aL, bq, am, bz, cx, aR⟩ := hM
 obtain ⟨β, rfl⟩ := Zk bq
 clear bq
 obtain ⟨aj, ax, ak, rfl⟩ := bz.form
 refine cv _ _ (sq_ fun cq => g_' (lr_ 34 0 (.agg #[.slice a76 aa Z, .slice aj ax ak]) cx (qs_ 1 ?_)))
 have bi := (bp.djn (ad.ltF.le O.n))
 have c9 := ((((az.frS U dn_).frS ab dn_).frS e (Dj.symm bi)).frS am (Dj.symm bi))
 have cF := (t_ (t_ O.n V.n) U.n)
 have bj := (ar.djn (ad.ltF.le cF))
 have c_ := ((aw.fr e (Dj.symm bj)).fr am (Dj.symm bj))
 obtain ⟨bP, cO, aK, cX⟩ := ra_ 34 0 am.wf c9 [.slice a76 aa Z, .slice aj ax ak] [.slice a76 aa Z, .slice aj ax ak]
 refine ek_ cO (qs_ 1 (Za (cq _ _ ?_)))
 refine Zh ?_
 refine Zac (vs := [.agg #[.slice a76 aa Z, .slice aj ax ak], .slice a53 ay al]) (ZQ (Eq.trans (b := aL_ 34 (pt_ aW 0) bP) (by kernel_rfl) (cX.l_)) (rt_ (rfl))) ?_
 have cG := (t_ ae.n O.n)
 have bW := (ar.djn (az.ltF.le U.n))
 have da := (c_.fr aK (Dj.symm bW))
 have bX := (au.djn (az.ltF.le U.n))
 have cH := (t_ (t_ U.n ab.n) e.n)
 have bY := (aR.dj bX (az.ltF.le cH))
 have db := (bz.fr aK (Dj.symm bY))
 have bZ := (a6.djn az.ltF)
 have dc := ((bc.fr am (Dj.symm aZ)).fr aK (Dj.symm bZ))
 have bD := (t_ (t_ (t_ ae.n O.n) V.n) U.n)
 have cI := (t_ (t_ (t_ (t_ (t_ ae.n O.n) V.n) U.n) ab.n) e.n)
 have cJ := (t_ (t_ ae.n O.n) V.n)
 have b5 := (aR.dj (Dj.symm b7) (aw.lt.le e.n))
 have cK := (t_ ab.n e.n)
 have b6 := (aR.dj (au.djn av.lt) (av.lt.le cK))
 obtain rfl := oi_ c4
 exact ⟨(.slice a76 aa Z), b9, (.slice aj ax ak), aL, (.slice a53 ay al), f47, rfl, (fs_ ah (fs_ ah (fs_ ah (fs_ ah (fs_ ah ((((f0_ ah).extR ae).extR O).extR V) U in_) ab in_) e (bo.fresh (Nat.le_refl _))) am (bo.fresh (Nat.le_refl _))) aK (bp.fresh cG)), da, db, dc, (ar.fresh bD), (Inn.trans (au.fresh bD) cI aR), (a6.fresh cJ), (Dj.symm b5), (ar.djn av.lt), b6⟩
theorem ZfJ {H : AH} {D : Nat} {O : Value} {Z : Fp} {V : List (Bool × List (Int × Int × Int) × List (Int × Int × Int))} {e : Int} {Y : Int} {r : Int}
    (ad : WF H) (ac : Nd Zc 3 H O V Z []) (aa : Row H D [O, i_ e, i_ Y]) (U : Zcv V e Y = some r) :
    ACalls Tryz.prog 29 #[pt_ D 0] H fun v H' => v = i_ r /\ H = H' := by
 refine ab_ Tryz.func29 ?_
 unfold Zcv at U
 refine sn_ (sq_ fun k2 => sn_ ?_)
 refine wb_ false (fun h => by cases h) fun _ => ?_
 refine Zg (k2 _ _ (sq_ fun ab => g_' (qs_ 3 (lr_ 3 1 (i_ e) aa (qs_ 1 (Za (ab _ _ ?_)))))))
 refine Zh ?_
 refine br_ [i_ e] ?_
 obtain rfl := oi_ U
 exact ⟨rfl, rfl⟩
theorem ZgJ {H : AH} {V : Value} {av : Fp} {aa : Value} {aw : Fp} {D : List (Bool)} {Arcs : List (Int × Int × Int × Int)} {r : Int}
    (au : WF H) (aj : Sq Zaz 1 H V D av) (aA : Sq Zn 4 H aa Arcs aw) (am : Zct D Arcs = some r) :
    ACalls Tryz.prog 30 #[.agg #[V, aa]] H fun v H' => v = i_ r /\ FrS [] H H' := by
 refine ab_ Tryz.func30 ?_
 unfold Zct at am
 refine sq_ fun k1 => g_' ?_
 refine ZaK au [V, aa] (Zu (aj.one1) (Zu (aA.one1) (Z1))) (by kernel_rfl) fun b2 ag ah aU aR => ?_
 refine qs_ 1 (Za (k1 _ _ (sn_ (sq_ fun aI => sq_ fun aE => g_' (qs_ 1 (lr_ 31 0 (V) aR ?_))))))
 have ad := (aj.ext ah)
 refine ad.ln_ 31 (qs_ 1 (Za (aE _ _ ?_)))
 obtain ⟨ac, aD, aJ⟩ := bs_ am
 refine ZC (fun α ae => Has α [(3, i_ ac)] /\ ag = ae) (fun _ aF => ?_) (fun α ae hM => ?_)
 ·refine Zl ?_
  obtain ⟨ap, aC⟩ := Zt.1 aD
  refine ZI (fun n α af => ∃ (O : Int), ∃ (e : Int), ZO (fun zz_ => Zbz D zz_.1 zz_.2) n (O, e) = some ac /\ Has α [(3, i_ O), (7, V), (8, i_ (D.length : Int)), (9, i_ e)] /\ ag = af) ap ⟨0, 0, aC, ha_, rfl⟩ ?_
  rintro ap α af ⟨O, e, aB, al, rfl⟩ aT an
  obtain ⟨aq, aS, rfl, Y, ab⟩ := Zx aB
  obtain ⟨β, rfl⟩ := Zk al
  clear al
  replace Y : Zbz D O e = some aS := Y
  unfold Zbz at Y
  refine sn_ (sq_ fun aG => ?_)
  refine wc_ (e < (D.length : Int)) (fun U => ?_) fun U => ?_
  ·have aK := Ze U Y
   refine Zg (aG _ _ (sq_ fun ao => Zl (sq_ fun aH => g_' ?_)))
   obtain ⟨ai, ar⟩ := Zb aK
   refine ad.ix_ 31 ai U (le_ 4 0 (.bool (gt D e)) ad ai U (qs_ 1 (Za (aH _ _ (sn_ ?_)))))
   refine wb_ ((gt D e)) (fun Z => ?_) fun Z => ?_
   ·have aL := Ze Z ar
    refine g_' (qs_ 1 ?_)
    obtain ⟨ax, aM⟩ := Zb aL
    refine w_' ((O + 1)) (Zo ax) (qs_ 1 (Za (ao _ _ (g_' ?_))))
    obtain ⟨ay, aN⟩ := Zb aM
    refine w_' ((e + 1)) (Zo (by have := ay; omega)) (qs_ 1 (Za ?_))
    obtain rfl := oi_ aN
    exact an aq _ _ lt_ ⟨(O + 1), (e + 1), ab, ha_, rfl⟩
   have aO := ZM Z ar
   refine Zg (ao _ _ (g_' ?_))
   obtain ⟨az, aP⟩ := Zb aO
   refine w_' ((e + 1)) (Zo (by have := az; omega)) (qs_ 1 (Za ?_))
   obtain rfl := oi_ aP
   exact an aq _ _ lt_ ⟨O, (e + 1), ab, ha_, rfl⟩
  have aQ := Zi U Y
  refine ZH (Zj (Zj (ZT ?_)))
  obtain rfl := oi_ aQ
  obtain rfl := Zv ab
  exact aF _ _ ⟨ha_, rfl⟩
 obtain ⟨ak, rfl⟩ := hM
 obtain ⟨β, rfl⟩ := Zk ak
 clear ak
 refine aI _ _ (sn_ ?_)
 refine Zh ?_
 refine br_ [i_ ac] ?_
 obtain rfl := oi_ aJ
 exact ⟨rfl, ((f0_ au).extR ah)⟩
theorem Zfy {H : AH} {D : Nat} {O : Value} {Z : Fp} {V : List (Bool × List (Int × Int × Int) × List (Int × Int × Int))} {Y : Int} {e : Int} {r : Int}
    (ad : WF H) (ac : Nd Zc 3 H O V Z []) (aa : Row H D [O, i_ Y, i_ e]) (U : Zci V Y e = some r) :
    ACalls Tryz.prog 31 #[pt_ D 0] H fun v H' => v = i_ r /\ H = H' := by
 refine ab_ Tryz.func31 ?_
 unfold Zci at U
 refine sn_ (sq_ fun k2 => sn_ ?_)
 refine wb_ false (fun h => by cases h) fun _ => ?_
 refine Zg (k2 _ _ (sq_ fun ab => g_' (qs_ 3 (lr_ 3 2 (i_ e) aa (qs_ 1 (Za (ab _ _ ?_)))))))
 refine Zh ?_
 refine br_ [i_ e] ?_
 obtain rfl := oi_ U
 exact ⟨rfl, rfl⟩
end Go.Vd

/-! (KSc11) -/

set_option maxRecDepth 100000
set_option maxHeartbeats 4000000
set_option linter.unusedVariables false
namespace Go.Vd
open Go.Proofs
attribute [local irreducible] Zp Zq aWp
theorem Zgn {H : AH} {ar : Nat} {a8 : Value} {bV : Fp} {ai : Value} {bT : Fp} {aw : Value} {bU : Fp} {aD : List (Bool × List (Int × Int × Int) × List (Int × Int × Int))} {aE : Int} {aF : Int} {af : List (Bool)} {Arcs : List (Int × Int × Int × Int)} {r : Bool}
    (D : WF H) (a7 : Nd Zc 3 H a8 aD bV []) (a6 : Row H ar [a8, i_ aE, i_ aF]) (aS : Sq Zaz 1 H ai af bT) (aT : Sq Zn 4 H aw Arcs bU) (bf : Zb8 aD aE aF af Arcs = some r) :
    ACalls Tryz.prog 13 #[pt_ ar 0, .agg #[ai, aw]] H fun v H' => v = .bool r /\ FrS [] H H' := by
 refine ab_ Tryz.func13 ?_
 unfold Zb8 at bf
 refine sq_ fun k1 => g_' ?_
 refine ZaK D [ai, aw] (Zu (aS.one1) (Zu (aT.one1) (Z1))) (by kernel_rfl) fun b2 aI O dA aH => ?_
 refine qs_ 1 (Za (k1 _ _ (sq_ fun cL => sq_ fun cM => ?_)))
 obtain ⟨bs, ce, bx⟩ := bs_ bf
 refine ZC (fun α aC => Has α [(0, pt_ ar 0), (3, pt_ b2 0), (21, .bool bs)] /\ FrS [] aI aC) (fun _ bp => ?_) (fun α aC hM => ?_)
 ·refine ZR [0, 2, 1, 3, 4, 5, 6, 8, 9, 10, 7, 11, 12] (by kernel_rfl) ?_
  refine es_ 1 ?_
  refine Zcz (.agg #[ai, aw]) (x := aL_ 34 (pt_ b2 0) aI) (by kernel_rfl) (aH.l_) ?_
  have bE := (a7.ext O)
  have bF := (a6.ext O)
  obtain ⟨dt, ci, c4⟩ := bs_ ce
  refine dk_ (ZfJ O.wf bE bF ci) ?_
  rintro _ _ ⟨rfl, rfl⟩
  refine ⟨ZaP (y := aL_ 34 (pt_ b2 0) aI) (by kernel_rfl) (aH.l_) (ZL), ?_⟩
  have dm := (aS.ext O)
  have bG := (aT.ext O)
  obtain ⟨du, cj, bC⟩ := bs_ c4
  refine dk_ (ZgJ O.wf dm bG cj) ?_
  rintro _ a1 ⟨rfl, au⟩
  refine ⟨Zap (by kernel_rfl) (ZL), ?_⟩
  refine Zla (dt = du) (by kernel_rfl) (fun aQ => ?_) (fun aQ => ?_)
  ·have c_ := Ze aQ bC
   refine es_ 3 ?_
   have bH := (aH.frS au dn_)
   refine Zcz (aw) (x := aL_ 32 (pt_ b2 1) a1) (by kernel_rfl) (bH.l_) ?_
   have dn := (bG.fr au dn_)
   refine dn.mn_ 32 ?_
   have dp := (bE.fr au dn_)
   have dq := (bF.frS au dn_)
   obtain ⟨dN, ck, da⟩ := bs_ c_
   refine dk_ (Zfy au.wf dp dq ck) ?_
   rintro _ _ ⟨rfl, rfl⟩
   refine ⟨ZaP (y := aL_ 32 (pt_ b2 1) a1) (by kernel_rfl) (bH.l_) (Zap (by kernel_rfl) (ZL)), ?_⟩
   refine es_ 2 ?_
   refine ZK ?_
   obtain rfl := oi_ da
   exact bp _ _ ⟨ha_, (fs_ O.wf (fr_ O.wf) au in_)⟩
  have db := Zi aQ bC
  refine es_ 8 ?_
  refine ZK ?_
  obtain rfl := oi_ db
  exact bp _ _ ⟨ha_, (fs_ O.wf (fr_ O.wf) au in_)⟩
 obtain ⟨bc, U⟩ := hM
 obtain ⟨β, rfl⟩ := Zk bc
 clear bc
 refine cM _ _ ?_
 refine wb_ (bs) (fun aR => ?_) fun aR => ?_
 ·have dc := Ze aR bx
  refine sn_ ?_
  refine Zh (Zf ?_)
  refine br_ [.bool false] ?_
  obtain rfl := oi_ dc
  exact ⟨rfl, (fs_ D ((f0_ D).extR O) U in_)⟩
 have dd := ZM aR bx
 refine Zg (cL _ _ (sq_ fun cE => sq_ fun cF => g_' (qs_ 1 ?_)))
 have bI := (aH.frS U dn_)
 refine lr_ 31 0 (ai) bI ?_
 have bJ := ((aS.ext O).fr U dn_)
 refine bJ.ln_ 31 (qs_ 1 (Za (cF _ _ ?_)))
 obtain ⟨bQ, cg, aB⟩ := bs_ dd
 refine ZC (fun α a2 => ∃ bv, bQ = Sum.inr bv /\ Has α [] /\ FrS [] aC a2) (fun _ cG => ?_) (fun α a2 hM => ?_)
 ·refine Zl ?_
  obtain ⟨br, b6⟩ := Zt.1 cg
  refine ZI (fun n α aJ => ∃ (Y : Int), ZO (fun zz_ => Zbe aD aE aF af Arcs zz_) n Y = some bQ /\ Has α [(0, pt_ ar 0), (3, pt_ b2 0), (24, i_ (af.length : Int)), (25, i_ Y)] /\ FrS [] aC aJ) br ⟨0, b6, ha_, (fr_ U.wf)⟩ ?_
  rintro br α aJ ⟨Y, bZ, be, aa⟩ dx cH
  obtain ⟨cO, z66, rfl, aA, ax⟩ := Zx bZ
  obtain ⟨β, rfl⟩ := Zk be
  clear be
  replace aA : Zbe aD aE aF af Arcs Y = some z66 := aA
  unfold Zbe at aA
  refine sn_ (sq_ fun cI => ?_)
  refine wc_ (Y < (af.length : Int)) (fun av => ?_) fun av => ?_
  ·have de := Ze av aA
   refine Zg (cI _ _ (sq_ fun cJ => Zl (sn_ (sq_ fun cK => ?_))))
   refine ZR [0, 1, 3, 4, 2, 5, 6, 7] (by kernel_rfl) ?_
   refine es_ 2 ?_
   have bK := (bI.frS aa dn_)
   refine Zcz (.agg #[ai, aw]) (x := aL_ 34 (pt_ b2 0) aJ) (by kernel_rfl) (bK.l_) ?_
   refine es_ 1 ?_
   have bL := (((a7.ext O).fr U dn_).fr aa dn_)
   have bM := (((a6.ext O).frS U dn_).frS aa dn_)
   obtain ⟨ae, cm, df⟩ := bs_ de
   refine dk_ (Zcw aa.wf bL bM cm) ?_
   rintro dD bR ⟨_, dz, rfl, ac, aV, dC⟩
   obtain ⟨al, ap, an, rfl⟩ := aV.form
   have bN := (bK.frS ac dn_)
   refine ⟨ZaP (y := aL_ 34 (pt_ b2 0) bR) (by kernel_rfl) (bN.l_) (ZL), ?_⟩
   have bO := ((bJ.fr aa dn_).fr ac dn_)
   have dr := ((((aT.ext O).fr U dn_).fr aa dn_).fr ac dn_)
   obtain ⟨aj, cn, dg⟩ := bs_ df
   refine dk_ (ZdP ac.wf bO dr cn) ?_
   rintro dE aq ⟨_, dy, rfl, Z, ad, dB⟩
   obtain ⟨ak, ao, am, rfl⟩ := ad.form
   refine ⟨Zap (by kernel_rfl) (ZL), ?_⟩
   refine es_ 2 ?_
   refine ZK ?_
   refine cK _ _ (sq_ fun cx => sq_ fun cy => ?_)
   obtain ⟨bt, bn, bw⟩ := bs_ dg
   refine ZC (fun α aX => Has α [(0, pt_ ar 0), (3, pt_ b2 0), (6, .slice al ap an), (7, .slice ak ao am), (24, i_ (af.length : Int)), (25, i_ Y), (49, .bool bt)] /\ aq = aX) (fun _ bo => ?_) (fun α aX hM => ?_)
   ·refine ZR [0, 1, 2, 3, 4, 5, 6, 7, 9, 10, 11, 12, 13, 8, 14, 15] (by kernel_rfl) ?_
    refine es_ 1 ?_
    have dh := (aV.fr Z dn_)
    refine dh.sq.mn_ 92 (es_ 1 (ad.sq.mn_ 94 ?_))
    refine Zla ((ae.length : Int) = (aj.length : Int)) (by kernel_rfl) (fun aL => ?_) (fun aL => ?_)
    ·have cP := Ze aL bn
     refine es_ 4 ?_
     have bD := (bN.frS Z dn_)
     refine Zcz (ai) (x := aL_ 31 (pt_ b2 0) aq) (by kernel_rfl) (bD.l_) ?_
     refine es_ 1 ?_
     obtain ⟨aK, cQ⟩ := Zb cP
     have aW := (bO.fr Z dn_)
     refine aW.mx_ 31 aK av ?_
     refine Zcz (.bool (gt af Y)) (x := aL_ 4 (elp ai 1 Y.toNat 0) aq) (by kernel_rfl) (aW.ld aK av (by kernel_rfl)) ?_
     have di := ((bL.fr ac dn_).fr Z dn_)
     have dk := ((bM.frS ac dn_).frS Z dn_)
     obtain ⟨dM, ch, cR⟩ := bs_ cQ
     refine dk_ (ZZ Z.wf di dk ch) ?_
     rintro _ _ ⟨rfl, rfl⟩
     refine ⟨ZaP (y := aL_ 4 (elp ai 1 Y.toNat 0) aq) (by kernel_rfl) (aW.ld aK av (by kernel_rfl)) (ZaP (y := aL_ 31 (pt_ b2 0) aq) (by kernel_rfl) (bD.l_) (ZL)), ?_⟩
     refine es_ 2 ?_
     refine ZK ?_
     obtain rfl := oi_ cR
     exact bo _ _ ⟨ha_, rfl⟩
    have cS := Zi aL bn
    refine es_ 11 ?_
    refine ZK ?_
    obtain rfl := oi_ cS
    exact bo _ _ ⟨ha_, rfl⟩
   obtain ⟨a_, rfl⟩ := hM
   obtain ⟨β, rfl⟩ := Zk a_
   clear a_
   refine cy _ _ ?_
   refine wb_ (bt) (fun aM => ?_) fun aM => ?_
   ·have cT := Ze aM bw
    refine sn_ ?_
    refine Zh (Zf (ZD (Zf (Zf (ZD (Zf (Zf ?_)))))))
    obtain ⟨dF, bg, co⟩ := map_some cT
    subst co
    obtain rfl := Zv ax
    have b7 := elim_inl aB
    rw [b7] at bg
    refine br_ [.bool false] ?_
    obtain rfl := oi_ bg
    exact ⟨rfl, (fs_ D (fs_ D (fs_ D (fs_ D ((f0_ D).extR O) U in_) aa in_) ac in_) Z in_)⟩
   have cU := ZM aM bw
   refine Zg (cx _ _ (sq_ fun cz => g_' (qs_ 1 ?_)))
   have ag := (aV.fr Z dn_)
   refine ag.sq.ln_ 92 (qs_ 1 (Za (cz _ _ ?_)))
   obtain ⟨bP, cf, aG⟩ := bs_ cU
   refine ZC (fun α aY => ∃ bu, bP = Sum.inr bu /\ Has α [(0, pt_ ar 0), (3, pt_ b2 0), (24, i_ (af.length : Int)), (25, i_ Y)] /\ aq = aY) (fun _ cA => ?_) (fun α aY hM => ?_)
   ·refine Zl ?_
    obtain ⟨bq, b5⟩ := Zt.1 cf
    refine ZI (fun n α aZ => ∃ (e : Int), ZO (fun zz_ => Zbk ae aj zz_) n e = some bP /\ Has α [(0, pt_ ar 0), (3, pt_ b2 0), (6, .slice al ap an), (7, .slice ak ao am), (24, i_ (af.length : Int)), (25, i_ Y), (51, i_ (ae.length : Int)), (52, i_ e)] /\ aq = aZ) bq ⟨0, b5, ha_, rfl⟩ ?_
    rintro bq α aZ ⟨e, bY, bb, rfl⟩ dw cB
    obtain ⟨cN, dv, rfl, az, ay⟩ := Zx bY
    obtain ⟨β, rfl⟩ := Zk bb
    clear bb
    replace az : Zbk ae aj e = some dv := az
    unfold Zbk at az
    refine sn_ (sq_ fun cC => ?_)
    refine wc_ (e < (ae.length : Int)) (fun ab => ?_) fun ab => ?_
    ·have cV := Ze ab az
     refine Zg (cC _ _ (sq_ fun cD => Zl (sn_ (sq_ fun aU => ?_))))
     refine ZR [0, 1, 2, 3, 4, 5, 6, 7, 8, 9, 10, 11, 12, 13, 14, 15, 16, 17, 18, 19, 20, 21, 22, 23, 24, 25, 26, 27, 28, 29, 30, 31, 32, 33, 34, 35, 36] (by kernel_rfl) ?_
     refine es_ 2 ?_
     obtain ⟨V, cW⟩ := Zb cV
     refine ag.sq.mx_ 92 V ab (m_' (elp (.slice al ap an) 3 e.toNat 0) (Zy Tryz.prog 98 (elp (.slice al ap an) 3 e.toNat 0) 0) (Sq.fldq (d := 0) ag.sq V ab (by kernel_rfl)) (me_ 3 0 (i_ ((gt ae e).1)) ag.sq V ab (es_ 2 ?_)))
     obtain ⟨ah, bz⟩ := Zb cW
     refine ad.sq.mx_ 94 V ah (m_' (elp (.slice ak ao am) 3 e.toNat 0) (Zy Tryz.prog 99 (elp (.slice ak ao am) 3 e.toNat 0) 0) (Sq.fldq (d := 0) ad.sq V ah (by kernel_rfl)) (me_ 3 0 (i_ ((gt aj e).1)) ad.sq V ah ?_))
     refine Zla (((gt ae e).1) = ((gt aj e).1)) (by kernel_rfl) (fun aN => ?_) (fun aN => ?_)
     ·have bA := Ze aN bz
      refine es_ 3 (ag.sq.mx_ 92 V ab (m_' (elp (.slice al ap an) 3 e.toNat 1) (Zy Tryz.prog 98 (elp (.slice al ap an) 3 e.toNat 0) 1) (Sq.fldq (d := 1) ag.sq V ab (by kernel_rfl)) (me_ 61 1 (.int .u64 ((gt ae e).2.1)) ag.sq V ab (es_ 2 (ad.sq.mx_ 94 V ah (m_' (elp (.slice ak ao am) 3 e.toNat 1) (Zy Tryz.prog 99 (elp (.slice ak ao am) 3 e.toNat 0) 1) (Sq.fldq (d := 1) ad.sq V ah (by kernel_rfl)) (me_ 61 1 (.int .u64 ((gt aj e).2.1)) ad.sq V ah ?_)))))))
      refine Zla (((gt ae e).2.1) = ((gt aj e).2.1)) (by kernel_rfl) (fun aO => ?_) (fun aO => ?_)
      ·have bB := Ze aO bA
       refine es_ 4 (ag.sq.mx_ 92 V ab (m_' (elp (.slice al ap an) 3 e.toNat 2) (Zy Tryz.prog 98 (elp (.slice al ap an) 3 e.toNat 0) 2) (Sq.fldq (d := 2) ag.sq V ab (by kernel_rfl)) (me_ 3 2 (i_ ((gt ae e).2.2)) ag.sq V ab (es_ 2 (ad.sq.mx_ 94 V ah (m_' (elp (.slice ak ao am) 3 e.toNat 2) (Zy Tryz.prog 99 (elp (.slice ak ao am) 3 e.toNat 0) 2) (Sq.fldq (d := 2) ad.sq V ah (by kernel_rfl)) (me_ 3 2 (i_ ((gt aj e).2.2)) ad.sq V ah (es_ 2 ?_))))))))
       refine ZK ?_
       refine aU _ _ ?_
       refine Zdi (((gt ae e).2.2) = ((gt aj e).2.2)) (by kernel_rfl) rfl (fun aP => ?_) (fun aP => ?_)
       ·have cX := Zi aP bB
        refine sn_ ?_
        refine Zh (ZD (Zf (Zf (ZD (Zf (ZD (Zf (Zf (ZD (Zf (Zf ?_)))))))))))
        obtain ⟨dG, bh, cp⟩ := map_some cX
        subst cp
        obtain rfl := Zv ay
        have b8 := elim_inl aG
        rw [b8] at bh
        obtain ⟨dH, bi, cq⟩ := map_some bh
        subst cq
        obtain rfl := Zv ax
        have b9 := elim_inl aB
        rw [b9] at bi
        refine br_ [.bool false] ?_
        obtain rfl := oi_ bi
        exact ⟨rfl, (fs_ D (fs_ D (fs_ D (fs_ D ((f0_ D).extR O) U in_) aa in_) ac in_) Z in_)⟩
       have cY := Ze aP bB
       refine Zg (cD _ _ (g_' ?_))
       obtain ⟨bW, cZ⟩ := Zb cY
       refine w_' ((e + 1)) (Zo (by have := bW; omega)) (qs_ 1 (Za ?_))
       obtain rfl := oi_ cZ
       exact cB cN _ _ lt_ ⟨(e + 1), ay, ha_, rfl⟩
      have c0 := Zi aO bA
      refine es_ 14 ?_
      refine ZK ?_
      refine aU _ _ ?_
      refine wb_ true (fun _ => ?_) fun h => by cases h
      refine sn_ ?_
      refine Zh (ZD (Zf (Zf (ZD (Zf (ZD (Zf (Zf (ZD (Zf (Zf ?_)))))))))))
      obtain ⟨dI, bj, cr⟩ := map_some c0
      subst cr
      obtain rfl := Zv ay
      have b_ := elim_inl aG
      rw [b_] at bj
      obtain ⟨dJ, bk, cu⟩ := map_some bj
      subst cu
      obtain rfl := Zv ax
      have ca := elim_inl aB
      rw [ca] at bk
      refine br_ [.bool false] ?_
      obtain rfl := oi_ bk
      exact ⟨rfl, (fs_ D (fs_ D (fs_ D (fs_ D ((f0_ D).extR O) U in_) aa in_) ac in_) Z in_)⟩
     have c3 := Zi aN bz
     refine es_ 26 ?_
     refine ZK ?_
     refine aU _ _ ?_
     refine wb_ true (fun _ => ?_) fun h => by cases h
     refine sn_ ?_
     refine Zh (ZD (Zf (Zf (ZD (Zf (ZD (Zf (Zf (ZD (Zf (Zf ?_)))))))))))
     obtain ⟨dK, bl, cv⟩ := map_some c3
     subst cv
     obtain rfl := Zv ay
     have cc := elim_inl aG
     rw [cc] at bl
     obtain ⟨dL, bm, cw⟩ := map_some bl
     subst cw
     obtain rfl := Zv ax
     have cd := elim_inl aB
     rw [cd] at bm
     refine br_ [.bool false] ?_
     obtain rfl := oi_ bm
     exact ⟨rfl, (fs_ D (fs_ D (fs_ D (fs_ D ((f0_ D).extR O) U in_) aa in_) ac in_) Z in_)⟩
    have c5 := Zi ab az
    refine ZH (Zj (Zj (ZT ?_)))
    obtain rfl := oi_ c5
    obtain rfl := Zv ay
    exact cA _ _ ⟨_, rfl, ha_, rfl⟩
   obtain ⟨bu, rfl, ba, rfl⟩ := hM
   have c6 := elim_inr aG
   obtain ⟨β, rfl⟩ := Zk ba
   clear ba
   refine cJ _ _ (g_' ?_)
   obtain ⟨bX, c7⟩ := Zb c6
   refine w_' ((Y + 1)) (Zo bX) (qs_ 1 (Za ?_))
   obtain rfl := oi_ c7
   exact cH cO _ _ lt_ ⟨(Y + 1), ax, ha_, (fs_ U.wf (fs_ U.wf (fs_ U.wf (fr_ U.wf) aa in_) ac in_) Z in_)⟩
  have c8 := Zi av aA
  refine ZH (Zj (Zj (ZT ?_)))
  obtain rfl := oi_ c8
  obtain rfl := Zv ax
  exact cG _ _ ⟨_, rfl, trivial, (fs_ U.wf (fr_ U.wf) aa in_)⟩
 obtain ⟨bv, rfl, bd, bS⟩ := hM
 have c9 := elim_inr aB
 obtain ⟨β, rfl⟩ := Zk bd
 clear bd
 refine cE _ _ (sn_ ?_)
 refine Zh ?_
 refine br_ [.bool true] ?_
 obtain rfl := oi_ c9
 exact ⟨rfl, (fs_ D (fs_ D ((f0_ D).extR O) U in_) bS in_)⟩
theorem Zeh {H : AH} {a1 : Value} {dE : Fp} {cd : Value} {dG : Fp} {a2 : Value} {dF : Fp} {aR : Int} {Arcs : List (Int × Int × Int)} {cS : List (Int × Int × Int × Int × Int)} {an : List (Int)} {av : Int} {aw : Int} {ar : Int} {ap : Int} {aq : Int} {r : Bool}
    (e : WF H) (cc : Sq Zr 3 H a1 Arcs dE) (dJ : Sq Zbf 5 H cd cS dG) (aZ : Sq (Zai .i64) 1 H a2 an dF) (ch : Zak aR Arcs cS an av aw ar ap aq = some r) :
    ACalls Tryz.prog 3 #[.agg #[i_ aR, a1], cd, a2, .agg #[i_ av, i_ aw, i_ ar, i_ ap, i_ aq]] H fun v H' => v = .bool r /\ FrS [] H H' := by
 refine ab_ Tryz.func3 ?_
 unfold Zak at ch
 refine sq_ fun k1 => g_' ?_
 refine ZaK e [i_ aR, a1] (Zu (rfl) (Zu (cc.one1) (Z1))) (by kernel_rfl) fun b2 fV Z gn e6 => ?_
 refine rl_ Z.wf [i_ av, i_ aw, i_ ar, i_ ap, i_ aq] fun bS f4 Y gm aP => ?_
 refine qs_ 1 (Za (k1 _ _ (sq_ fun ed => sq_ fun ee => g_' ?_)))
 obtain ⟨fJ, dT, cJ⟩ := bs_ ch
 refine ck_ (Zf6 Y.wf dT) ?_
 rintro _ fR ⟨rfl, U⟩
 refine qs_ 1 (Za (ee _ _ ?_))
 refine wb_ ((!fJ)) (fun bo => ?_) fun bo => ?_
 ·have eJ := Ze bo cJ
  refine sn_ ?_
  refine Zh (Zf ?_)
  refine br_ [.bool false] ?_
  obtain rfl := oi_ eJ
  exact ⟨rfl, (fs_ e (((f0_ e).extR Z).extR Y) U in_)⟩
 have eM := ZM bo cJ
 refine Zg (ed _ _ (sq_ fun cv => g_' ?_))
 have ff := ((e6.ext Y).frS U dn_)
 refine lr_ 24 0 (.agg #[i_ aR, a1]) ff (qs_ 1 ?_)
 have cV := (((cc.ext Z).ext Y).fr U dn_)
 have cX := (((dJ.ext Z).ext Y).fr U dn_)
 obtain ⟨fM, cn, cO⟩ := bs_ eM
 rcases fM with gL | aQ
 ·have eW := ZjN cO
  refine ck_ (Zeu U.wf cV cX cn) ?_
  rintro _ fY ⟨rfl, bm⟩
  refine qs_ 4 ?_
  refine rk_ bm.wf [.slice none 0 0, .slice none 0 0] fun f_ f0 b7 dK e5 => ?_
  refine qs_ 1 ?_
  obtain ⟨f1, eC, dB, gw⟩ := ra_ 34 0 b7.wf e5 [.slice none 0 0, .slice none 0 0] [.slice none 0 0, .slice none 0 0]
  refine ek_ eC (qs_ 1 (Za (cv _ _ (sq_ fun gr => sn_ ?_))))
  refine wb_ true (fun _ => ?_) fun h => by cases h
  refine sn_ ?_
  refine Zh (Zf ?_)
  refine br_ [.bool true] ?_
  have eA := (t_ (t_ (t_ Z.n Y.n) U.n) bm.n)
  obtain rfl := oi_ eW
  exact ⟨rfl, (fs_ e ((fs_ e (fs_ e (((f0_ e).extR Z).extR Y) U in_) bm in_).extR b7) dB (dK.fresh eA))⟩
 have cR := Zjd cO
 refine ck_ (Zeu U.wf cV cX cn) ?_
 rintro _ f2 ⟨gC, aW, aF, gD, b9, gE, b_, rfl, ac, a7, aC, bA, bB, ak, al, gp, gq, du, dv, dw, dx, dy, dz⟩
 obtain ⟨bR, cG, bT, rfl⟩ := a7.form
 obtain ⟨bf, bH, bj, rfl⟩ := bA.form
 obtain ⟨bg, bI, bk, rfl⟩ := bB.form
 refine qs_ 4 ?_
 refine rk_ ac.wf [.slice none 0 0, .slice none 0 0] fun aG f3 aa V ao => ?_
 refine qs_ 1 ?_
 have fG := (bB.ext aa)
 have fH := (bA.ext aa)
 obtain ⟨aE, eD, D, e7⟩ := ra_ 34 0 aa.wf ao [.slice bf bH bj, .slice bg bI bk] [.slice bf bH bj, .slice bg bI bk]
 refine ek_ eD (qs_ 1 (Za (cv _ _ (sq_ fun d9 => sq_ fun d_ => g_' (qs_ 4 ?_)))))
 have ae := (t_ (t_ (t_ Z.n Y.n) U.n) ac.n)
 have bU := (V.djn (aZ.lt.le ae))
 have bL := ((((((aZ.ext Z).ext Y).fr U dn_).fr ac dn_).ext aa).fr D bU)
 refine bL.ln_ 26 (qs_ 2 (Za (d_ _ _ ?_)))
 refine wc_ ((an.length : Int) > 30) (fun bn => ?_) fun bn => ?_
 ·have eE := Ze bn cR
  refine sn_ ?_
  refine Zh (Zf ?_)
  refine br_ [.bool true] ?_
  obtain rfl := oi_ eE
  exact ⟨rfl, (fs_ e ((fs_ e (fs_ e (((f0_ e).extR Z).extR Y) U in_) ac in_).extR aa) D (V.fresh ae))⟩
 have eF := Zi bn cR
 refine Zg (d9 _ _ (sq_ fun ea => sq_ fun eb => g_' (qs_ 1 (bL.ln_ 26 (qs_ 1 (Za (eb _ _ ?_)))))))
 obtain ⟨c6, dR, aO⟩ := bs_ eF
 refine ZC (fun α bP => ∃ cH, c6 = Sum.inr cH /\ Has α [] /\ FrS ([aF] ++ ([aG] ++ aW)) aE bP) (fun _ ec => ?_) (fun α bP hM => ?_)
 ·refine Zl ?_
  obtain ⟨cC, dM⟩ := Zt.1 dR
  have e9 := (fH.fr D (V.djn bA.lt))
  have e_ := (fG.fr D (V.djn bB.lt))
  have fa := ((a7.ext aa).fr D (V.djn a7.lt))
  have fb := ((aC.ext aa).frS D (V.djn aC.ltF))
  refine ZI (fun n α au => ∃ (aM : List (Bool)), ∃ (aN : List (Int × Int × Int × Int)), ∃ (aj : Int), ∃ (ba : List (Bool × List (Int × Int × Int) × List (Int × Int × Int))), ∃ (bb : Int), ∃ (bc : Int), ∃ (bJ : Value), ∃ (aA : Fp), ∃ (bK : Value), ∃ (aB : Fp), ∃ (aI : Fp), ZO (fun zz_ => Z8 an av aw ar ap aq zz_.1 zz_.2.1 zz_.2.2.1 zz_.2.2.2.1 zz_.2.2.2.2.1 zz_.2.2.2.2.2) n (aM, aN, aj, ba, bb, bc) = some c6 /\ Has α [(7, pt_ bS 0), (9, pt_ aF 0), (10, pt_ aG 0), (33, a2), (34, i_ (an.length : Int)), (35, i_ aj)] /\ FrS ([aF] ++ ([aG] ++ aW)) aE au /\ Ow Zaz 1 au bJ aM aA /\ Sq Zn 4 au bK aN aB /\ Row au aG [bJ, bK] /\ Nd Zc 3 au (.slice bR cG bT) ba aI [] /\ Row au aF [.slice bR cG bT, i_ bb, i_ bc] /\ Inn b9 aE aA /\ Inn b_ aE aB /\ Inn aW aE aI /\ Dj aA aB /\ Dj aA aI /\ Dj aB aI) cC ⟨aQ.2.2.2.1, aQ.2.2.2.2, 0, aQ.1, aQ.2.1, aQ.2.2.1, (.slice bf bH bj), b9, (.slice bg bI bk), b_, aW, dM, ha_, (fr_ D.wf), e9, e_, e7, fa, fb, ir_, ir_, ir_, dz, (Dj.symm dv), (Dj.symm dx)⟩ ?_
  rintro cC α au ⟨aM, aN, aj, ba, bb, bc, bJ, aA, bK, aB, aI, dL, cf, ad, bw, bx, eq, es, et, co, cp, ai, c8, bV, bW⟩ f5 cq
  obtain ⟨cD, fP, rfl, aK, az⟩ := Zx dL
  obtain ⟨β, rfl⟩ := Zk cf
  clear cf
  replace aK : Z8 an av aw ar ap aq aM aN aj ba bb bc = some fP := aK
  unfold Z8 at aK
  obtain ⟨bd, bC, bh, rfl⟩ := bw.form
  obtain ⟨be, bD, bi, rfl⟩ := bx.form
  refine sn_ (sq_ fun ef => ?_)
  refine wc_ (aj < (an.length : Int)) (fun aJ => ?_) fun aJ => ?_
  ·have eG := Ze aJ aK
   refine Zg (ef _ _ (sq_ fun cr => Zl (sq_ fun eh => g_' ?_)))
   obtain ⟨ca, eH⟩ := Zb eG
   have ab := (t_ (t_ Z.n Y.n) U.n)
   have c9 := (ak.djn (aZ.lt.le ab))
   have c_ := (al.djn (aZ.lt.le ab))
   have cT := (bL.fr ad (Dj.app c_ (Dj.app bU c9)))
   refine cT.ix_ 26 ca aJ (le_ 3 0 (i_ (gt an aj)) cT ca aJ (qs_ 1 (Za (eh _ _ (sq_ fun ej => g_' (qs_ 2 ?_))))))
   have eu := (t_ U.n ac.n)
   have bX := (V.djn (aP.ltF.le eu))
   have bY := (ak.djn (aP.ltF.le U.n))
   have bZ := (al.djn (aP.ltF.le U.n))
   have cU := (((((aP.frS U dn_).frS ac dn_).ext aa).frS D bX).frS ad (Dj.app bZ (Dj.app bX bY)))
   refine lr_ 28 0 (.agg #[i_ av, i_ aw, i_ ar, i_ ap, i_ aq]) cU ?_
   have bE := (t_ aa.n D.n)
   have da := (ai.dj du (aC.ltF.le bE))
   obtain ⟨aD, dU, eI⟩ := bs_ eH
   refine ck_ (Zg7 ad.wf es et da dU) ?_
   rintro _ fQ ⟨gx, gi, gF, gj, b8, rfl, af, bz, cw, a6, cx, d6, d7, aL, gd, ge, gf⟩
   obtain ⟨f7, gs, ga, rfl⟩ := bz.form
   refine qs_ 5 (Za (ej _ _ (sq_ fun ek => sq_ fun el => g_' ?_)))
   have db := (V.djn a7.lt)
   have b5 := (ai.dj (Dj.symm db) (ao.ltF.le D.n))
   have b6 := (V.djn aC.ltF)
   have bM := (eq.frS af (Dj.app (Dj.symm b6) b5))
   refine lr_ 34 0 (.agg #[.slice bd bC bh, .slice be bD bi]) bM (qs_ 1 ?_)
   have dc := (co.dj (Dj.symm dw) (aC.ltF.le bE))
   have bN := (bw.fr af (Dj.app (Dj.symm dc) (Dj.symm bV)))
   have dd := (cp.dj (Dj.symm dy) (aC.ltF.le bE))
   have bO := (bx.fr af (Dj.app (Dj.symm dd) (Dj.symm bW)))
   obtain ⟨fK, dV, cK⟩ := bs_ eI
   refine ck_ (ZcO af.wf bN.sq bO dV) ?_
   rintro _ c7 ⟨rfl, O⟩
   refine qs_ 1 (Za (el _ _ ?_))
   refine wb_ ((!fK)) (fun bp => ?_) fun bp => ?_
   ·have eK := Ze bp cK
    refine sq_ fun em => sq_ fun eo => ?_
    obtain ⟨cI, dS, cL⟩ := bs_ eK
    refine ZC (fun α bQ => Has α [(7, pt_ bS 0), (9, pt_ aF 0), (10, pt_ aG 0), (33, a2), (34, i_ (an.length : Int)), (35, i_ aj), (58, .bool cI)] /\ FrS [] c7 bQ) (fun _ cu => ?_) (fun α bQ hM => ?_)
    ·refine g_' (qs_ 1 ?_)
     obtain ⟨gK, dW, eL⟩ := bs_ dS
     refine ck_ (ZaR O.wf dW) ?_
     rintro _ fS ⟨rfl, aH⟩
     have fc := ((cw.fr O dn_).fr aH dn_)
     obtain ⟨fL, dX, cM⟩ := bs_ eL
     refine ck_ (ZgH aH.wf fc (Sq.nil (enc := ZaZ) (sz := 2) (by decide)) dX) ?_
     rintro _ fT ⟨rfl, bl⟩
     by_cases aX : fL = true
     ·have eN := Ze aX cM
      rw [aX]
      refine qs_ 3 ?_
      have fd := (((bz.fr O dn_).fr aH dn_).fr bl dn_)
      refine fd.sq.ln_ 37 (qs_ 2 (Za ?_))
      obtain rfl := oi_ eN
      exact cu _ _ ⟨ha_, (fs_ O.wf (fs_ O.wf (fr_ O.wf) aH in_) bl in_)⟩
     have eO := Zi aX cM
     rw [nb aX]
     refine qs_ 6 (Za ?_)
     obtain rfl := oi_ eO
     exact cu _ _ ⟨ha_, (fs_ O.wf (fs_ O.wf (fr_ O.wf) aH in_) bl in_)⟩
    obtain ⟨cg, ax⟩ := hM
    obtain ⟨β, rfl⟩ := Zk cg
    clear cg
    refine eo _ _ ?_
    refine wb_ (cI) (fun bq => ?_) fun bq => ?_
    ·have eP := Ze bq cL
     refine sn_ ?_
     refine Zh (Zf (Zf (ZD (Zf (Zf (ZD (Zf (Zf ?_))))))))
     obtain ⟨gG, ci, d2⟩ := map_some eP
     subst d2
     obtain rfl := Zv az
     have dN := elim_inl aO
     rw [dN] at ci
     refine br_ [.bool false] ?_
     have ev := (t_ (t_ (t_ (t_ (t_ Z.n Y.n) U.n) ac.n) aa.n) D.n)
     obtain rfl := oi_ ci
     exact ⟨rfl, (fs_ e (fs_ e (fs_ e (fs_ e (fs_ e ((fs_ e (fs_ e (((f0_ e).extR Z).extR Y) U in_) ac in_).extR aa) D (V.fresh ae)) ad (Inn.app (al.fresh ab) (Inn.app (V.fresh ae) (ak.fresh ab)))) af (Inn.app (al.fresh ab) (Inn.trans (ak.fresh ab) ev ai))) O in_) ax in_)⟩
    have eQ := ZM bq cL
    refine Zg (em _ _ ?_)
    refine ZH (Zj (ZT ?_))
    refine cr _ _ (g_' ?_)
    obtain ⟨dH, eR⟩ := Zb eQ
    refine w_' ((aj + 1)) (Zo (by have := dH; omega)) (qs_ 1 (Za ?_))
    have fg := ((bN.fr O dn_).fr ax dn_)
    have fh := ((bO.fr O dn_).fr ax dn_)
    have fj := ((bM.frS O dn_).frS ax dn_)
    have fm := ((a6.fr O dn_).fr ax dn_)
    have fo := ((cx.frS O dn_).frS ax dn_)
    have de := (aL.dj (Dj.symm bV) bw.lt)
    have df := (aL.dj (Dj.symm bW) bx.lt)
    obtain rfl := oi_ eR
    exact cq cD _ _ lt_ ⟨aM, aN, (aj + 1), aD.2.2.1, aD.2.2.2.1, aD.2.2.2.2, (.slice bd bC bh), aA, (.slice be bD bi), aB, b8, az, ha_, (fs_ D.wf (fs_ D.wf (fs_ D.wf (fs_ D.wf (fr_ D.wf) ad ir_) af (Inn.app Inn.left (Inn.trans (Inn.right (Inn.right ir_)) (Nat.le_refl _) ai))) O in_) ax in_), fg, fh, fj, fm, fo, (Inn.trans ir_ (Nat.le_refl _) co), (Inn.trans ir_ (Nat.le_refl _) cp), (Inn.trans (Inn.trans ir_ (Nat.le_refl _) ai) ad.n aL), c8, (Dj.symm de), (Dj.symm df)⟩
   have eS := ZM bp cK
   refine Zg (ek _ _ (sn_ (sq_ fun ep => g_' ?_)))
   have cW := (bM.frS O dn_)
   refine lr_ 34 0 (.agg #[.slice bd bC bh, .slice be bD bi]) cW (qs_ 1 ?_)
   have ew := (t_ (t_ (t_ U.n ac.n) aa.n) D.n)
   have dg := (ai.dj bY (aP.ltF.le ew))
   have fu := ((cU.frS af (Dj.app bZ dg)).frS O dn_)
   refine lr_ 28 0 (.agg #[i_ av, i_ aw, i_ ar, i_ ap, i_ aq]) fu ?_
   have fv := (bN.fr O dn_)
   have fw := (bO.fr O dn_)
   obtain ⟨c5, dY, cN⟩ := bs_ eS
   refine ck_ (Zfh O.wf fv.sq fw dY) ?_
   rintro _ fU ⟨gy, dC, gz, dD, gA, gk, rfl, am, cy, cz, cA, bt, bu, d8, dh, gg, gh⟩
   obtain ⟨aS, a8, aU, rfl⟩ := cy.form
   obtain ⟨aT, a_, aV, rfl⟩ := cz.form
   obtain ⟨f8, gu, gb, rfl⟩ := cA.form
   refine qs_ 3 ?_
   have fx := (cW.frS am dn_)
   obtain ⟨fW, eB, ag, eT⟩ := ra_ 34 0 am.wf fx [.slice aS a8 aU, .slice aT a_ aV] [.slice aS a8 aU, .slice aT a_ aV]
   refine ek_ eB (qs_ 1 (Za (ep _ _ (sq_ fun bv => g_' (qs_ 1 ?_)))))
   have bF := (t_ D.n ad.n)
   have di := (d7.djn (ao.ltF.le bF))
   have fy := (((cw.fr O dn_).fr am dn_).fr ag (Dj.symm di))
   rcases (fy).cases with ⟨br, rfl⟩ | ⟨br, e8, fI, rfl⟩
   ·have eU := Ze br cN
    refine qs_ 3 ?_
    have dk := (d6.djn (ao.ltF.le bF))
    have fz := (((bz.fr O dn_).fr am dn_).fr ag (Dj.symm dk))
    obtain ⟨gM, dZ, eV⟩ := bs_ eU
    refine ck_ (ZeU ag.wf fz.sq dZ) ?_
    rintro gB fX ⟨_, gl, rfl, ah, cB, go⟩
    obtain ⟨f9, gv, gc, rfl⟩ := cB.form
    refine qs_ 1 ?_
    have bG := (t_ (t_ (t_ D.n ad.n) af.n) O.n)
    have dm := (d8.djn (ao.ltF.le bG))
    have fA := ((cA.fr ag (Dj.symm dm)).fr ah dn_)
    obtain ⟨fN, d0, cP⟩ := bs_ eV
    refine ck_ (Zet ah.wf cB.sq fA.sq d0) ?_
    rintro _ _ ⟨rfl, rfl⟩
    by_cases aY : fN = true
    ·have eX := Ze aY cP
     rw [aY]
     refine qs_ 4 ?_
     have cY := (eT.frS ah dn_)
     refine lr_ 34 0 (.agg #[.slice aS a8 aU, .slice aT a_ aV]) cY ?_
     have dn := (aL.dj b5 (ao.ltF.le bF))
     have cZ := ((((a6.fr O dn_).fr am dn_).fr ag (Dj.symm dn)).fr ah dn_)
     have c0 := ((((cx.frS O dn_).frS am dn_).frS ag b6).frS ah dn_)
     have dp := (bt.djn (ao.ltF.le bG))
     have c3 := ((cy.fr ag (Dj.symm dp)).fr ah dn_)
     have dq := (bu.djn (ao.ltF.le bG))
     have c4 := ((cz.fr ag (Dj.symm dq)).fr ah dn_)
     obtain ⟨fO, d1, cQ⟩ := bs_ eX
     refine ck_ (Zgn ah.wf cZ c0 c3.sq c4 d1) ?_
     rintro _ fZ ⟨rfl, ay⟩
     refine qs_ 2 (Za (bv _ _ ?_))
     refine wb_ ((!fO)) (fun bs => ?_) fun bs => ?_
     ·have eY := Ze bs cQ
      refine sn_ ?_
      refine Zh (ZD (Zf (Zf (ZD (Zf (Zf ?_))))))
      obtain ⟨gH, cj, d3⟩ := map_some eY
      subst d3
      obtain rfl := Zv az
      have dO := elim_inl aO
      rw [dO] at cj
      refine br_ [.bool false] ?_
      have ex := (t_ (t_ (t_ (t_ (t_ Z.n Y.n) U.n) ac.n) aa.n) D.n)
      obtain rfl := oi_ cj
      exact ⟨rfl, (fs_ e (fs_ e (fs_ e (fs_ e (fs_ e (fs_ e (fs_ e (fs_ e ((fs_ e (fs_ e (((f0_ e).extR Z).extR Y) U in_) ac in_).extR aa) D (V.fresh ae)) ad (Inn.app (al.fresh ab) (Inn.app (V.fresh ae) (ak.fresh ab)))) af (Inn.app (al.fresh ab) (Inn.trans (ak.fresh ab) ex ai))) O in_) am in_) ag (V.fresh ae)) ah in_) ay in_)⟩
     have eZ := ZM bs cQ
     refine Zg (cr _ _ (g_' ?_))
     obtain ⟨dI, e0⟩ := Zb eZ
     refine w_' ((aj + 1)) (Zo (by have := dI; omega)) (qs_ 1 (Za ?_))
     have fB := (c3.fr ay dn_)
     have fC := (c4.fr ay dn_)
     have fD := (cY.frS ay dn_)
     have fE := (cZ.fr ay dn_)
     have fF := (c0.frS ay dn_)
     have cE := (t_ (t_ ad.n af.n) O.n)
     have dr := (bt.djn (a6.lt.le O.n))
     have dt := (bu.djn (a6.lt.le O.n))
     obtain rfl := oi_ e0
     exact cq cD _ _ lt_ ⟨c5.1, c5.2.1, (aj + 1), aD.2.2.1, aD.2.2.2.1, aD.2.2.2.2, (.slice aS a8 aU), dC, (.slice aT a_ aV), dD, b8, az, ha_, (fs_ D.wf (fs_ D.wf (fs_ D.wf (fs_ D.wf (fs_ D.wf (fs_ D.wf (fs_ D.wf (fr_ D.wf) ad ir_) af (Inn.app Inn.left (Inn.trans (Inn.right (Inn.right ir_)) (Nat.le_refl _) ai))) O in_) am in_) ag (Inn.right Inn.left)) ah in_) ay in_), fB, fC, fD, fE, fF, (bt.fresh cE), (bu.fresh cE), (Inn.trans (Inn.trans ir_ (Nat.le_refl _) ai) ad.n aL), dh, dr, dt⟩
    have e1 := Zi aY cP
    rw [nb aY]
    refine qs_ 8 (Za (bv _ _ ?_))
    refine wb_ true (fun _ => ?_) fun h => by cases h
    refine sn_ ?_
    refine Zh (ZD (Zf (Zf (ZD (Zf (Zf ?_))))))
    obtain ⟨gI, ck, d4⟩ := map_some e1
    subst d4
    obtain rfl := Zv az
    have dP := elim_inl aO
    rw [dP] at ck
    refine br_ [.bool false] ?_
    have ey := (t_ (t_ (t_ (t_ (t_ Z.n Y.n) U.n) ac.n) aa.n) D.n)
    obtain rfl := oi_ ck
    exact ⟨rfl, (fs_ e (fs_ e (fs_ e (fs_ e (fs_ e (fs_ e (fs_ e ((fs_ e (fs_ e (((f0_ e).extR Z).extR Y) U in_) ac in_).extR aa) D (V.fresh ae)) ad (Inn.app (al.fresh ab) (Inn.app (V.fresh ae) (ak.fresh ab)))) af (Inn.app (al.fresh ab) (Inn.trans (ak.fresh ab) ey ai))) O in_) am in_) ag (V.fresh ae)) ah in_)⟩
   have e2 := Zi br cN
   refine l_' (.bool true) (Zbl Tryz.prog .neq 39 (.tmp 66) (.const .nilIface) (.iface e8 fI) .nilIface) (ZcT (by kernel_rfl)) (qs_ 13 (Za (bv _ _ ?_)))
   refine wb_ true (fun _ => ?_) fun h => by cases h
   refine sn_ ?_
   refine Zh (ZD (Zf (Zf (ZD (Zf (Zf ?_))))))
   obtain ⟨gJ, cm, d5⟩ := map_some e2
   subst d5
   obtain rfl := Zv az
   have dQ := elim_inl aO
   rw [dQ] at cm
   refine br_ [.bool false] ?_
   have ez := (t_ (t_ (t_ (t_ (t_ Z.n Y.n) U.n) ac.n) aa.n) D.n)
   obtain rfl := oi_ cm
   exact ⟨rfl, (fs_ e (fs_ e (fs_ e (fs_ e (fs_ e (fs_ e ((fs_ e (fs_ e (((f0_ e).extR Z).extR Y) U in_) ac in_).extR aa) D (V.fresh ae)) ad (Inn.app (al.fresh ab) (Inn.app (V.fresh ae) (ak.fresh ab)))) af (Inn.app (al.fresh ab) (Inn.trans (ak.fresh ab) ez ai))) O in_) am in_) ag (V.fresh ae))⟩
  have e3 := Zi aJ aK
  refine ZH (Zj (Zj (ZT ?_)))
  obtain rfl := oi_ e3
  obtain rfl := Zv az
  exact ec _ _ ⟨_, rfl, trivial, (fs_ D.wf (fr_ D.wf) ad ir_)⟩
 obtain ⟨cH, rfl, ce, dA⟩ := hM
 have e4 := elim_inr aO
 obtain ⟨β, rfl⟩ := Zk ce
 clear ce
 refine ea _ _ (sn_ ?_)
 refine Zh ?_
 refine br_ [.bool true] ?_
 have cF := (t_ (t_ Z.n Y.n) U.n)
 obtain rfl := oi_ e4
 exact ⟨rfl, (fs_ e (fs_ e ((fs_ e (fs_ e (((f0_ e).extR Z).extR Y) U in_) ac in_).extR aa) D (V.fresh ae)) dA (Inn.app (al.fresh cF) (Inn.app (V.fresh ae) (ak.fresh cF))))⟩
end Go.Vd
