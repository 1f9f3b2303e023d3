/- The walks of the functions (printed by a program of ours). -/
import Derived.Test.YtnepbkkdhalbiaaPsb1
import Derived.Test.YtnepbkkdhalbiaaPsbVeC
import Derived.Test.YtnepbkkdhalbiaaPsbISb
import Derived.Test.YtnepbkkdhalbiaaPsbVeN
import Derived.Test.YtnepbkkdhalbiaaPsbSoA
import Derived.Test.YtnepbkkdhalbiaaPsbVeV
set_option linter.unusedVariables false
set_option linter.unusedSimpArgs false
set_option linter.unusedSectionVars false
/-! (KSb5) -/

set_option maxRecDepth 100000
set_option maxHeartbeats 4000000
set_option linter.unusedVariables false
namespace Go.Vd
open Go.Proofs
attribute [local irreducible] Zm Zp aWp
theorem Zd4 {H : AH} {bg : Value} {fY : Fp} {aV : Value} {fZ : Fp} {a6 : Int} {Arcs : List (Int × Int × Int)} {V : List (Int × Int × Int × Int × Int)} {r : (Unit) ⊕ (List (Bool × List (Int × Int × Int) × List (Int × Int × Int)) × Int × Int × List (Bool) × List (Int × Int × Int × Int))}
    (aE : WF H) (cE : Sq Zq 3 H bg Arcs fY) (bf : Sq Za5 5 H aV V fZ) (dH : ZbO a6 Arcs V = some r) :
    ACalls Try.prog 11 #[.agg #[i_ a6, bg], aV] H fun v H' => Sum.elim (fun (r : Unit) => v = .tuple #[.pointer none, .agg #[.slice none 0 0, .slice none 0 0], .bool false] /\ FrS [] H H') (fun (r : List (Bool × List (Int × Int × Int) × List (Int × Int × Int)) × Int × Int × List (Bool) × List (Int × Int × Int × Int)) => ∃ (ek : Value) (bH : Fp) (a8 : Nat) (eh : Value) (bF : Fp) (ej : Value) (f15 : Fp), v = .tuple #[pt_ a8 0, .agg #[eh, ej], .bool true] /\ FrS [] H H' /\ Nd Zc 3 H' ek r.1 bH [] /\ Row H' a8 [ek, i_ r.2.1, i_ r.2.2.1] /\ Ow Zc2 1 H' eh r.2.2.2.1 bF /\ Sq Zr 4 H' ej r.2.2.2.2 f15 /\ Inn [] H bH /\ Inn [] H [a8] /\ Inn [] H bF /\ Inn [] H f15 /\ Dj bH [a8] /\ Dj bH bF /\ Dj [a8] bF /\ Dj bH f15 /\ Dj [a8] f15 /\ Dj bF f15) r := by
 refine ab_ Try.func11 ?_
 unfold ZbO at dH
 refine sq_ fun gn => g_' ?_
 refine ZbJ aE [i_ a6, bg] (Zy (rfl) (Zy (cE.one1) (Zau))) (by kernel_rfl) fun eC iR av jf eb => ?_
 refine q_ (.pointer none) ?_
 refine rk_ av.wf [.slice none 0 0, .slice none 0 0] fun a7 ez ai dC aF => ?_
 refine q_ (.bool false) (Za (gn _ _ (sq_ fun gu => sq_ fun gv => ?_)))
 obtain ⟨d_, f7, ed⟩ := bs_ dH
 refine ZC (fun α dg => Has α [(1, aV), (2, pt_ eC 0), (5, pt_ a7 0), (21, .bool d_)] /\ FrS [] ez dg) (fun _ dJ => ?_) (fun α dg hM => ?_)
 ·refine g_' ?_
  have ii := (eb.ext ai)
  refine lr_ 24 0 (.agg #[i_ a6, bg]) ii ?_
  have il := ((cE.ext av).ext ai)
  obtain ⟨iJ, ge, ef⟩ := bs_ f7
  refine ck_ (Zgu ai.wf il ge) ?_
  rintro _ i3 ⟨rfl, cw⟩
  by_cases b7 : iJ = true
  ·have hJ := Ze b7 ef
   rw [b7]
   refine q_ (.bool false) (q_ (.bool false) (q_ (aV) ?_))
   have iD := (((bf.ext av).ext ai).fr cw dn_)
   refine iD.ln_ 25 (q_ (.bool (decide ((V.length : Int) > 60))) (q_ (.bool (decide ((V.length : Int) > 60))) (Za ?_)))
   obtain rfl := oi_ hJ
   exact dJ _ _ ⟨ha_, (fs_ ai.wf (fr_ ai.wf) cw in_)⟩
  have hL := Zi b7 ef
  rw [nb b7]
  refine q_ (.bool true) (q_ (.bool true) (n_' (n_' (n_' (q_ (.bool true) (Za ?_))))))
  obtain rfl := oi_ hL
  exact dJ _ _ ⟨ha_, (fs_ ai.wf (fr_ ai.wf) cw in_)⟩
 obtain ⟨dG, ah⟩ := hM
 obtain ⟨β, rfl⟩ := Zh dG
 clear dG
 refine gv _ _ ?_
 refine wb_ (d_) (fun cD => ?_) fun cD => ?_
 ·have hN := Ze cD ed
  refine sq_ fun gA => g_' (q_ (.agg #[.slice none 0 0, .slice none 0 0]) (q_ (.pointer none) ?_))
  have iF := (aF.frS ah dn_)
  obtain ⟨eB, hf, fU, hO⟩ := ra_ 33 0 ah.wf iF [.slice none 0 0, .slice none 0 0] [.slice none 0 0, .slice none 0 0]
  refine ek_ hf (q_ (.bool false) (Za (gA _ _ ?_)))
  refine Zg (Zn ?_)
  refine Zan (vs := [.pointer none, .agg #[.slice none 0 0, .slice none 0 0], .bool false]) (ZcG (by kernel_rfl) (ZQ (Eq.trans (b := aL_ 33 (pt_ a7 0) eB) (by kernel_rfl) (hO.l_)) (rt_ (rfl)))) ?_
  obtain rfl := oi_ hN
  exact (ZjX ⟨rfl, (fs_ aE (fs_ aE (((f0_ aE).extR av).extR ai) ah in_) fU (dC.fresh av.n))⟩)
 have hP := ZK cD ed
 refine Zf (gu _ _ (sq_ fun gB => g_' ?_))
 have et := ((eb.ext ai).frS ah dn_)
 refine lr_ 24 0 (.agg #[i_ a6, bg]) et ?_
 have eu := (((cE.ext av).ext ai).fr ah dn_)
 obtain ⟨iK, gf, eg⟩ := bs_ hP
 rcases iK with jy | df
 ·exact (Zm1 (ZkL eg)).elim
 have hQ := ZkO eg
 refine ck_ (Zip ah.wf eu gf) ?_
 rintro _ i4 ⟨js, bI, ak, rfl, aw, aQ, ae, b9, b_, cu⟩
 obtain ⟨aT, aY, aU, rfl⟩ := aQ.form
 refine q_ (.tuple #[pt_ ak 0, .nilIface]) (q_ (pt_ ak 0) (q_ (.nilIface) (q_ (pt_ ak 0) (q_ (.nilIface) (Za (gB _ _ (sq_ fun gC => g_' ?_)))))))
 have iG := (et.frS aw dn_)
 refine lr_ 24 0 (.agg #[i_ a6, bg]) iG ?_
 have iH := (eu.fr aw dn_)
 obtain ⟨bn, gg, hR⟩ := bs_ hQ
 refine ck_ (Zft aw.wf iH gg) ?_
 rintro _ iM ⟨jm, cx, jn, cy, jo, jc, rfl, ad, bj, bO, cO, aW, bh, jg, eD, i8, i9⟩
 obtain ⟨bo, bQ, bu, rfl⟩ := bj.form
 obtain ⟨bp, bR, bv, rfl⟩ := bO.form
 obtain ⟨bX, ce, bZ, rfl⟩ := cO.form
 refine q_ (.tuple #[.agg #[.slice bo bQ bu, .slice bp bR bv], .agg #[i_ bn.2.2.1, .slice bX ce bZ]]) (q_ (.agg #[.slice bo bQ bu, .slice bp bR bv]) (q_ (.agg #[i_ bn.2.2.1, .slice bX ce bZ]) ?_))
 refine rk_ ad.wf [.slice none 0 0, .slice none 0 0] fun aI iN ag au ao => ?_
 refine rk_ ag.wf [i_ 0, .slice none 0 0] fun i6 iO aa aO hg => ?_
 have hS := (ao.ext aa)
 have hT := ((bO.ext ag).ext aa)
 have hU := ((bj.ext ag).ext aa)
 obtain ⟨iP, g9, ab, hh⟩ := ra_ 33 0 aa.wf hS [.slice bo bQ bu, .slice bp bR bv] [.slice bo bQ bu, .slice bp bR bv]
 refine ek_ g9 ?_
 have dh := (aO.djn ao.ltF)
 have hV := (hg.frS ab (Dj.symm dh))
 have jt := (((cO.ext ag).ext aa).fr ab (au.djn cO.lt))
 obtain ⟨aM, g_, O, jl⟩ := ra_ 79 0 ab.wf hV [i_ bn.2.2.1, .slice bX ce bZ] [i_ bn.2.2.1, .slice bX ce bZ]
 refine ek_ g_ (Za (gC _ _ (sq_ fun gh => sq_ fun gi => g_' (q_ (aV) ?_))))
 have cR := (t_ (t_ (t_ (t_ av.n ai.n) ah.n) aw.n) ad.n)
 have di := (au.djn (bf.lt.le cR))
 have dU := (t_ (t_ (t_ (t_ (t_ av.n ai.n) ah.n) aw.n) ad.n) ag.n)
 have eE := (aO.djn (bf.lt.le dU))
 have el := (((((((((bf.ext av).ext ai).fr ah dn_).fr aw dn_).fr ad dn_).ext ag).ext aa).fr ab di).fr O eE)
 refine el.ln_ 25 (q_ (i_ 0) (Za (gi _ _ ?_)))
 obtain ⟨bl, f5, hj⟩ := bs_ hR
 refine ZC (fun α aR => ∃ (bb : Fp) (c4 : Value) (bc : Fp) (c5 : Value) (bd : Fp), Has α [(5, pt_ a7 0), (7, pt_ ak 0), (9, pt_ aI 0)] /\ FrS ([aI] ++ ([ak] ++ bI)) aM aR /\ Nd Zc 3 aR (.slice aT aY aU) bl.1 bb [] /\ Row aR ak [.slice aT aY aU, i_ bl.2.1, i_ bl.2.2.1] /\ Ow Zc2 1 aR c4 bl.2.2.2.1 bc /\ Sq Zr 4 aR c5 bl.2.2.2.2 bd /\ Row aR aI [c4, c5] /\ Inn bI aM bb /\ Inn cx aM bc /\ Inn cy aM bd /\ Dj bb bc /\ Dj bb bd /\ Dj bc bd) (fun _ gj => ?_) (fun α aR hM => ?_)
 ·refine Zk ?_
  obtain ⟨dV, f4⟩ := Zv.1 f5
  have eI := (au.djn (aQ.lt.le ad.n))
  have dW := (t_ ad.n ag.n)
  have eJ := (aO.djn (aQ.lt.le dW))
  have hW := (((((aQ.fr ad dn_).ext ag).ext aa).fr ab eI).fr O eJ)
  have eK := (au.djn (ae.ltF.le ad.n))
  have eL := (aO.djn (ae.ltF.le dW))
  have hX := (((((ae.frS ad dn_).ext ag).ext aa).frS ab eK).frS O eL)
  have eM := (aO.djn (bj.lt.le ag.n))
  have hY := ((hU.fr ab (au.djn bj.lt)).fr O eM)
  have eN := (aO.djn (bO.lt.le ag.n))
  have hZ := ((hT.fr ab (au.djn bO.lt)).fr O eN)
  have h1 := (hh.frS O dh)
  have eO := (aW.djn aQ.lt)
  have eP := (bh.djn aQ.lt)
  refine ZJ (fun n α aS => ∃ (e : Int), ∃ (ch : List (Bool × List (Int × Int × Int) × List (Int × Int × Int))), ∃ (o2 : Int), ∃ (ci : Int), ∃ (bk : List (Bool)), ∃ (cd : List (Int × Int × Int × Int)), ∃ (aK : Fp), ∃ (c6 : Value), ∃ (aN : Fp), ∃ (c7 : Value), ∃ (aL : Fp), ZN (fun zz_ => ZaE V zz_.1 zz_.2.1 zz_.2.2.1 zz_.2.2.2.1 zz_.2.2.2.2.1 zz_.2.2.2.2.2) n (e, ch, o2, ci, bk, cd) = some bl /\ Has α [(5, pt_ a7 0), (7, pt_ ak 0), (9, pt_ aI 0), (33, aV), (34, i_ (V.length : Int)), (35, i_ e)] /\ FrS ([aI] ++ ([ak] ++ bI)) aM aS /\ Nd Zc 3 aS (.slice aT aY aU) ch aK [] /\ Row aS ak [.slice aT aY aU, i_ o2, i_ ci] /\ Ow Zc2 1 aS c6 bk aN /\ Sq Zr 4 aS c7 cd aL /\ Row aS aI [c6, c7] /\ Inn bI aM aK /\ Inn cx aM aN /\ Inn cy aM aL /\ Dj aK aN /\ Dj aK aL /\ Dj aN aL) dV ⟨0, df.1, df.2.1, df.2.2, bn.1, bn.2.1, bI, (.slice bo bQ bu), cx, (.slice bp bR bv), cy, f4, ha_, (fr_ O.wf), hW, hX, hY, hZ.sq, h1, ir_, ir_, ir_, (Dj.symm eO), (Dj.symm eP), eD⟩ ?_
  rintro dV α aS ⟨e, ch, o2, ci, bk, cd, aK, c6, aN, c7, aL, f3, dE, ac, aX, cP, ax, aH, cQ, az, aP, bi, a_, bB, cq⟩ i5 cL
  obtain ⟨cS, iL, rfl, bK, b8⟩ := Zx f3
  obtain ⟨β, rfl⟩ := Zh dE
  clear dE
  replace bK : ZaE V e ch o2 ci bk cd = some iL := bK
  unfold ZaE at bK
  obtain ⟨aA, aD, aB, rfl⟩ := ax.form
  obtain ⟨bq, bS, bw, rfl⟩ := aH.form
  refine sq_ fun gk => g_' (q_ (.bool (decide (e < (V.length : Int)))) (Za (gk _ _ (sq_ fun gl => ?_))))
  refine wc_ (e < (V.length : Int)) (fun bJ => ?_) fun bJ => ?_
  ·have hk := Ze bJ bK
   refine Zf (gl _ _ (sq_ fun cM => Zk (sq_ fun gm => g_' ?_)))
   obtain ⟨dB, hl⟩ := Zb hk
   have dX := (t_ (t_ av.n ai.n) ah.n)
   have eQ := (b9.djn (bf.lt.le dX))
   have eR := (b_.djn (bf.lt.le dX))
   have em := (el.fr ac (Dj.app di (Dj.app eR eQ)))
   refine em.ix_ 25 dB bJ (le_ 83 0 (.agg #[.int .u8 ((gt V e).1), i_ ((gt V e).2.1), i_ ((gt V e).2.2.1), .int .u64 ((gt V e).2.2.2.1), i_ ((gt V e).2.2.2.2)]) em dB bJ ?_)
   refine rk_ ac.wf [.int .u8 0, i_ 0, i_ 0, .int .u64 0, i_ 0] fun aj iQ Y an c3 => ?_
   obtain ⟨ck, ha, U, a1⟩ := ra_ 83 0 Y.wf c3 [.int .u8 ((gt V e).1), i_ ((gt V e).2.1), i_ ((gt V e).2.2.1), .int .u64 ((gt V e).2.2.2.1), i_ ((gt V e).2.2.2.2)] [.int .u8 ((gt V e).1), i_ ((gt V e).2.1), i_ ((gt V e).2.2.1), .int .u64 ((gt V e).2.2.2.1), i_ ((gt V e).2.2.2.2)]
   refine ek_ ha (Za (gm _ _ (sq_ fun go => sq_ fun gp => g_' (q_ (pt_ aj 0) (lr_ 5 0 (.int .u8 ((gt V e).1)) a1 (q_ (.bool (decide (((gt V e).1) = 1))) (Za (gp _ _ ?_))))))))
   obtain ⟨aZ, dI, ea⟩ := bs_ hl
   refine ZC (fun α a2 => ∃ (bG : Fp) (c8 : Value) (be : Fp), Has α [(5, pt_ a7 0), (7, pt_ ak 0), (9, pt_ aI 0), (12, pt_ aj 0), (33, aV), (34, i_ (V.length : Int)), (35, i_ e)] /\ FrS ([aI] ++ ([ak] ++ aK)) ck a2 /\ Nd Zc 3 a2 (.slice aT aY aU) aZ.1 bG [] /\ Row a2 ak [.slice aT aY aU, i_ o2, i_ aZ.2.1] /\ Sq Zr 4 a2 c8 aZ.2.2 be /\ Row a2 aI [.slice aA aD aB, c8] /\ Inn aK ck bG /\ Inn aL ck be /\ Dj bG be) (fun _ cN => ?_) (fun α a2 hM => ?_)
   ·refine wc_ (((gt V e).1) = 1) (fun cz => ?_) fun cz => ?_
    ·have hm := Ze cz dI
     refine sq_ fun gq => g_' (q_ (pt_ ak 0) (q_ (pt_ aj 1) (lr_ 3 1 (i_ ((gt V e).2.1)) a1 (q_ (pt_ aj 2) (lr_ 3 2 (i_ ((gt V e).2.2.1)) a1 (q_ (pt_ aj 3) (lr_ 27 3 (.int .u64 ((gt V e).2.2.2.1)) a1 (q_ (pt_ aj 4) (lr_ 3 4 (i_ ((gt V e).2.2.2.2)) a1 ?_)))))))))
     have h2 := ((aX.ext Y).fr U (an.djn aX.lt))
     have gG := (t_ (t_ (t_ (t_ (t_ ad.n ag.n) aa.n) ab.n) O.n) ac.n)
     have dk := (an.djn (ae.ltF.le gG))
     have h3 := ((cP.ext Y).frS U dk)
     have cT := (t_ (t_ (t_ (t_ ad.n ag.n) aa.n) ab.n) O.n)
     have eS := (az.dj cu (ae.ltF.le cT))
     obtain ⟨jx, f8, hn⟩ := bs_ hm
     refine ck_ (Zfk U.wf h2 h3 (Dj.symm eS) f8) ?_
     rintro _ iS ⟨jv, jd, dz, rfl, al, jj, bP, dP, jh, bM, ja⟩
     refine Za (gq _ _ (sq_ fun gr => g_' ?_))
     have gH := (t_ (t_ (t_ aa.n ab.n) O.n) ac.n)
     have eT := (an.djn (ao.ltF.le gH))
     have eU := (au.djn (aQ.lt.le ad.n))
     have dY := (t_ (t_ aa.n ab.n) O.n)
     have dm := (az.dj (Dj.symm eU) (ao.ltF.le dY))
     have dn := (au.djn (ae.ltF.le ad.n))
     have c9 := (((cQ.ext Y).frS U eT).frS al (Dj.app (Dj.symm dn) dm))
     refine lr_ 33 0 (.agg #[.slice aA aD aB, .slice bq bS bw]) c9 (q_ (pt_ aj 1) ?_)
     have eV := (an.djn aX.lt)
     have bW := (a1.frS al (Dj.app (Dj.symm dk) (Dj.symm eV)))
     refine lr_ 3 1 (i_ ((gt V e).2.1)) bW (q_ (pt_ aj 2) (lr_ 3 2 (i_ ((gt V e).2.2.1)) bW (q_ (pt_ aj 3) (lr_ 27 3 (.int .u64 ((gt V e).2.2.2.1)) bW (q_ (pt_ aj 4) (lr_ 3 4 (i_ ((gt V e).2.2.2.2)) bW ?_))))))
     have eW := (aP.dj (aW.djn ae.ltF) (ae.ltF.le cT))
     have eo := (((ax.ext Y).fr U (an.djn ax.lt)).fr al (Dj.app (Dj.symm eW) a_))
     have eX := (bi.dj (bh.djn ae.ltF) (ae.ltF.le cT))
     have c_ := (((aH.ext Y).fr U (an.djn aH.lt)).fr al (Dj.app (Dj.symm eX) bB))
     obtain ⟨de, f9, ho⟩ := bs_ hn
     refine ck_ (Zfq al.wf eo.sq c_ f9) ?_
     rintro _ iT ⟨rfl, af⟩
     refine rk_ af.wf [i_ 0, .slice none 0 0] fun i7 iU ap aC hq => ?_
     obtain ⟨iV, hb, aq, hr⟩ := ra_ 79 0 ap.wf hq [i_ de, .slice none 0 0] [i_ de, .slice none 0 0]
     refine ek_ hb (Za (gr _ _ (sq_ fun gs => g_' (lr_ 79 0 (.agg #[i_ de, .slice none 0 0]) hr ?_))))
     obtain ⟨ew, f_, ec⟩ := bs_ ho
     refine ck_ (ZbW aq.wf (Sq.nil (enc := Zbv) (sz := 2) (by decide)) f_) ?_
     rintro _ iW ⟨rfl, ar⟩
     refine q_ (.bool (!ew)) (Za (gs _ _ ?_))
     refine wb_ ((!ew)) (fun cA => ?_) fun cA => ?_
     ·have ht := Ze cA ec
      refine g_' ?_
      have gI := (t_ (t_ (t_ (t_ (t_ (t_ (t_ aa.n ab.n) O.n) ac.n) Y.n) U.n) al.n) af.n)
      have eY := (aC.djn (ao.ltF.le gI))
      have ep := ((((c9.frS af dn_).ext ap).frS aq eY).frS ar dn_)
      refine lr_ 33 0 (.agg #[.slice aA aD aB, .slice bq bS bw]) ep (q_ (pt_ aj 1) ?_)
      have gJ := (t_ (t_ U.n al.n) af.n)
      have eZ := (aC.djn (c3.ltF.le gJ))
      have cj := ((((bW.frS af dn_).ext ap).frS aq eZ).frS ar dn_)
      refine lr_ 3 1 (i_ ((gt V e).2.1)) cj (q_ (pt_ aj 2) (lr_ 3 2 (i_ ((gt V e).2.2.1)) cj (q_ (pt_ aj 3) (lr_ 27 3 (.int .u64 ((gt V e).2.2.2.1)) cj (q_ (pt_ aj 4) (lr_ 3 4 (i_ ((gt V e).2.2.2.2)) cj (q_ (.agg #[i_ ((gt V e).2.1), i_ ((gt V e).2.2.1), .int .u64 ((gt V e).2.2.2.1), i_ ((gt V e).2.2.2.2)]) ?_)))))))
      have dZ := (t_ (t_ (t_ Y.n U.n) al.n) af.n)
      have e0 := (aC.djn (ax.lt.le dZ))
      have eq := ((((eo.fr af dn_).ext ap).fr aq e0).fr ar dn_)
      have e1 := (aC.djn (aH.lt.le dZ))
      have h4 := ((((c_.fr af dn_).ext ap).fr aq e1).fr ar dn_)
      obtain ⟨ex, ga, hu⟩ := bs_ ht
      refine ck_ (Zgl ar.wf eq.sq h4 ga) ?_
      rintro _ iX ⟨jp, fV, rfl, ba, dQ, cI⟩
      obtain ⟨br, bT, bx, rfl⟩ := dQ.form
      refine q_ (.tuple #[.agg #[.slice aA aD aB, .slice br bT bx], .bool ex.2]) (q_ (.agg #[.slice aA aD aB, .slice br bT bx]) (q_ (.bool ex.2) ?_))
      have h5 := (ep.frS ba dn_)
      have ju := (eq.fr ba dn_)
      obtain ⟨iY, hc, b6, hv⟩ := ra_ 33 0 ba.wf h5 [.slice aA aD aB, .slice br bT bx] [.slice aA aD aB, .slice br bT bx]
      refine ek_ hc (Za ?_)
      have gK := (t_ al.n af.n)
      have e2 := (aC.djn (bP.lt.le af.n))
      have gL := (t_ (t_ (t_ (t_ (t_ aa.n ab.n) O.n) ac.n) Y.n) U.n)
      have e3 := (bM.dj dm (ao.ltF.le gL))
      have h6 := ((((((bP.fr af dn_).ext ap).fr aq e2).fr ar dn_).fr ba dn_).fr b6 (Dj.symm e3))
      have gM := (t_ (t_ (t_ (t_ (t_ (t_ (t_ (t_ (t_ ad.n ag.n) aa.n) ab.n) O.n) ac.n) Y.n) U.n) al.n) af.n)
      have e4 := (aC.djn (ae.ltF.le gM))
      have h7 := ((((((dP.frS af dn_).ext ap).frS aq e4).frS ar dn_).frS ba dn_).frS b6 dn)
      have e5 := (au.djn bO.lt)
      have e6 := (bi.dj (Dj.symm e5) (ao.ltF.le dY))
      have gN := (t_ (t_ (t_ (t_ (t_ (t_ (t_ (t_ (t_ (t_ aa.n ab.n) O.n) ac.n) Y.n) U.n) al.n) af.n) ap.n) aq.n) ar.n)
      have e7 := (cI.dj e6 (ao.ltF.le gN))
      have h8 := (dQ.fr b6 (Dj.symm e7))
      have gO := (t_ (t_ (t_ (t_ al.n af.n) ap.n) aq.n) ar.n)
      have gP := (t_ Y.n U.n)
      have e8 := (bM.dj bB (aH.lt.le gP))
      have gQ := (t_ (t_ (t_ af.n ap.n) aq.n) ar.n)
      have e9 := (cI.dj (Dj.symm e8) (bP.lt.le gQ))
      obtain rfl := oi_ hu
      exact cN _ _ ⟨dz, (.slice br bT bx), fV, ha_, (fs_ U.wf (fs_ U.wf (fs_ U.wf (fs_ U.wf ((fs_ U.wf (fs_ U.wf (fr_ U.wf) al (Inn.app (Inn.right Inn.left) (Inn.right (Inn.right ir_)))) af in_).extR ap) aq (aC.fresh gK)) ar in_) ba in_) b6 Inn.left), h6, h7, h8, hv, (Inn.trans ir_ (Nat.le_refl _) bM), (Inn.trans ir_ gO cI), (Dj.symm e9)⟩
     have hw := ZK cA ec
     refine Zf ?_
     have gR := (t_ al.n af.n)
     have e_ := (aC.djn (bP.lt.le af.n))
     have h9 := ((((bP.fr af dn_).ext ap).fr aq e_).fr ar dn_)
     have gS := (t_ (t_ (t_ (t_ (t_ (t_ (t_ (t_ (t_ ad.n ag.n) aa.n) ab.n) O.n) ac.n) Y.n) U.n) al.n) af.n)
     have fa := (aC.djn (ae.ltF.le gS))
     have h_ := ((((dP.frS af dn_).ext ap).frS aq fa).frS ar dn_)
     have gT := (t_ (t_ (t_ Y.n U.n) al.n) af.n)
     have fb := (aC.djn (aH.lt.le gT))
     have ia := ((((c_.fr af dn_).ext ap).fr aq fb).fr ar dn_)
     have gU := (t_ (t_ (t_ (t_ (t_ (t_ (t_ aa.n ab.n) O.n) ac.n) Y.n) U.n) al.n) af.n)
     have fc := (aC.djn (ao.ltF.le gU))
     have ib := ((((c9.frS af dn_).ext ap).frS aq fc).frS ar dn_)
     have gV := (t_ Y.n U.n)
     have fd := (bM.dj bB (aH.lt.le gV))
     obtain rfl := oi_ hw
     exact cN _ _ ⟨dz, (.slice bq bS bw), aL, ha_, (fs_ U.wf (fs_ U.wf ((fs_ U.wf (fs_ U.wf (fr_ U.wf) al (Inn.app (Inn.right Inn.left) (Inn.right (Inn.right ir_)))) af in_).extR ap) aq (aC.fresh gR)) ar in_), h9, h_, ia, ib, (Inn.trans ir_ (Nat.le_refl _) bM), ir_, fd⟩
    have hx := Zi cz dI
    refine Zf ?_
    have ic := ((aX.ext Y).fr U (an.djn aX.lt))
    have gW := (t_ (t_ (t_ (t_ (t_ ad.n ag.n) aa.n) ab.n) O.n) ac.n)
    have fe := (an.djn (ae.ltF.le gW))
    have id := ((cP.ext Y).frS U fe)
    have ie := ((aH.ext Y).fr U (an.djn aH.lt))
    have gX := (t_ (t_ (t_ aa.n ab.n) O.n) ac.n)
    have ff := (an.djn (ao.ltF.le gX))
    have ig := ((cQ.ext Y).frS U ff)
    obtain rfl := oi_ hx
    exact cN _ _ ⟨aK, (.slice bq bS bw), aL, ha_, (fr_ U.wf), ic, id, ie, ig, ir_, ir_, bB⟩
   obtain ⟨bG, c8, be, dF, ay, dM, dN, ca, dO, aG, bL, cr⟩ := hM
   obtain ⟨β, rfl⟩ := Zh dF
   clear dF
   obtain ⟨bY, cf, b5, rfl⟩ := ca.form
   refine go _ _ (sq_ fun gw => g_' (q_ (pt_ aj 0) ?_))
   have dp := (an.djn aX.lt)
   have gY := (t_ (t_ (t_ (t_ (t_ ad.n ag.n) aa.n) ab.n) O.n) ac.n)
   have dq := (an.djn (ae.ltF.le gY))
   have gZ := (t_ (t_ (t_ aa.n ab.n) O.n) ac.n)
   have fg := (an.djn (ao.ltF.le gZ))
   have da := (a1.frS ay (Dj.app (Dj.symm fg) (Dj.app (Dj.symm dq) (Dj.symm dp))))
   refine lr_ 5 0 (.int .u8 ((gt V e).1)) da (q_ (.bool (decide (((gt V e).1) = 2))) (Za (gw _ _ ?_)))
   refine wc_ (((gt V e).1) = 2) (fun cB => ?_) fun cB => ?_
   ·have hy := Ze cB ea
    refine sq_ fun gx => g_' (q_ (pt_ ak 0) (q_ (pt_ aj 1) (lr_ 3 1 (i_ ((gt V e).2.1)) da ?_)))
    have cU := (t_ (t_ (t_ (t_ ad.n ag.n) aa.n) ab.n) O.n)
    have fh := (az.dj cu (ae.ltF.le cU))
    have d0 := (t_ (t_ (t_ (t_ (t_ (t_ (t_ ad.n ag.n) aa.n) ab.n) O.n) ac.n) Y.n) U.n)
    have fj := (aG.dj fh (ae.ltF.le d0))
    obtain ⟨bm, gb, hz⟩ := bs_ hy
    refine ck_ (ZeM ay.wf dM dN fj gb) ?_
    rintro jw iZ ⟨_, je, dA, rfl, aJ, jk, cc, dR, ji, bN, jb⟩
    refine Za (gx _ _ (sq_ fun gy => g_' ?_))
    have fk := (au.djn (aQ.lt.le ad.n))
    have d1 := (t_ (t_ aa.n ab.n) O.n)
    have fm := (az.dj (Dj.symm fk) (ao.ltF.le d1))
    have g0 := (t_ (t_ (t_ (t_ (t_ aa.n ab.n) O.n) ac.n) Y.n) U.n)
    have dr := (aG.dj fm (ao.ltF.le g0))
    have dt := (au.djn (ae.ltF.le ad.n))
    have db := (dO.frS aJ (Dj.app (Dj.symm dt) dr))
    refine lr_ 33 0 (.agg #[.slice aA aD aB, .slice bY cf b5]) db (q_ (pt_ aj 1) ?_)
    have fo := (aG.dj (Dj.symm dp) (c3.ltF.le U.n))
    have er := (da.frS aJ (Dj.app (Dj.symm dq) fo))
    refine lr_ 3 1 (i_ ((gt V e).2.1)) er ?_
    have du := (aP.dj (aW.djn ae.ltF) (ae.ltF.le cU))
    have fu := (au.djn bj.lt)
    have fv := (aP.dj (Dj.symm fu) (ao.ltF.le d1))
    have d2 := (t_ Y.n U.n)
    have dv := (aG.dj a_ (ax.lt.le d2))
    have dc := ((((ax.ext Y).fr U (an.djn ax.lt)).fr ay (Dj.app (Dj.symm fv) (Dj.app (Dj.symm du) a_))).fr aJ (Dj.app (Dj.symm du) dv))
    have fw := (bi.dj (bh.djn ae.ltF) (ae.ltF.le cU))
    have fx := (bL.dj fw (ae.ltF.le d0))
    have dd := (ca.fr aJ (Dj.app (Dj.symm fx) cr))
    obtain ⟨iI, gc, ee⟩ := bs_ hz
    refine ck_ (Zco aJ.wf dc.sq dd gc) ?_
    rintro _ i0 ⟨rfl, am⟩
    refine Za (gy _ _ ?_)
    refine wb_ (iI) (fun cC => ?_) fun cC => ?_
    ·have hA := Ze cC ee
     refine g_' ?_
     have es := (db.frS am dn_)
     refine lr_ 33 0 (.agg #[.slice aA aD aB, .slice bY cf b5]) es (q_ (pt_ aj 1) ?_)
     have ih := (er.frS am dn_)
     refine lr_ 3 1 (i_ ((gt V e).2.1)) ih ?_
     have ij := (dc.fr am dn_)
     have ik := (dd.fr am dn_)
     obtain ⟨ey, gd, hB⟩ := bs_ hA
     refine ck_ (ZdR am.wf ij.sq ik gd) ?_
     rintro _ i1 ⟨jq, fW, jr, fX, rfl, bC, dS, dT, cJ, cK, fy⟩
     obtain ⟨cm, cV, co, rfl⟩ := dS.form
     obtain ⟨cn, cW, cp, rfl⟩ := dT.form
     have im := (es.frS bC dn_)
     obtain ⟨i2, hd, bD, hC⟩ := ra_ 33 0 bC.wf im [.slice cm cV co, .slice cn cW cp] [.slice cm cV co, .slice cn cW cp]
     refine ek_ hd (Za (cM _ _ (g_' ?_)))
     obtain ⟨f0, hD⟩ := Zb hB
     refine w_' ((e + 1)) (Zo (by have := f0; omega)) (q_ (i_ (e + 1)) (Za ?_))
     have d3 := (t_ (t_ ac.n Y.n) U.n)
     have g1 := (t_ (t_ (t_ (t_ (t_ (t_ aa.n ab.n) O.n) ac.n) Y.n) U.n) ay.n)
     have fz := (bN.dj dr (ao.ltF.le g1))
     have io := (((cc.fr am dn_).fr bC dn_).fr bD (Dj.symm fz))
     have ip := (((dR.frS am dn_).frS bC dn_).frS bD dt)
     have d4 := (t_ (t_ (t_ (t_ (t_ (t_ (t_ (t_ aa.n ab.n) O.n) ac.n) Y.n) U.n) ay.n) aJ.n) am.n)
     have fA := (cJ.djn (ao.ltF.le d4))
     have iq := (dS.fr bD (Dj.symm fA))
     have fB := (cK.djn (ao.ltF.le d4))
     have ir := (dT.fr bD (Dj.symm fB))
     have g2 := (t_ (t_ (t_ ac.n Y.n) U.n) ay.n)
     have d5 := (t_ (t_ (t_ (t_ (t_ ac.n Y.n) U.n) ay.n) aJ.n) am.n)
     have fC := (cJ.djn (cc.lt.le am.n))
     have fD := (cK.djn (cc.lt.le am.n))
     obtain rfl := oi_ hD
     exact cL cS _ _ lt_ ⟨(e + 1), bm.2.1, bm.2.2.1, bm.2.2.2, ey.1, ey.2, dA, (.slice cm cV co), fW, (.slice cn cW cp), fX, b8, ha_, (fs_ O.wf (fs_ O.wf (fs_ O.wf (fs_ O.wf (fs_ O.wf (fs_ O.wf ((fs_ O.wf (fr_ O.wf) ac ir_).extR Y) U (an.fresh ac.n)) ay (Inn.app Inn.left (Inn.app (Inn.right Inn.left) (Inn.trans (Inn.right (Inn.right ir_)) (Nat.le_refl _) az)))) aJ (Inn.app (Inn.right Inn.left) (Inn.trans (Inn.trans (Inn.right (Inn.right ir_)) (Nat.le_refl _) az) d3 aG))) am in_) bC in_) bD Inn.left), io, ip, iq, ir.sq, hC, (Inn.trans (Inn.trans (Inn.trans ir_ (Nat.le_refl _) az) d3 aG) g2 bN), (cJ.fresh d5), (cK.fresh d5), (Dj.symm fC), (Dj.symm fD), fy⟩
    have hE := ZK cC ee
    refine Zf (cM _ _ (g_' ?_))
    obtain ⟨f1, hF⟩ := Zb hE
    refine w_' ((e + 1)) (Zo (by have := f1; omega)) (q_ (i_ (e + 1)) (Za ?_))
    have cX := (t_ (t_ ac.n Y.n) U.n)
    have it := (cc.fr am dn_)
    have iu := (dR.frS am dn_)
    have iv := (dc.fr am dn_)
    have iw := (dd.fr am dn_)
    have ix := (db.frS am dn_)
    have g3 := (t_ (t_ (t_ ac.n Y.n) U.n) ay.n)
    have g4 := (t_ (t_ Y.n U.n) ay.n)
    have fE := (bN.dj dv (ax.lt.le g4))
    have fF := (bL.dj (Dj.symm cq) (ax.lt.le d2))
    obtain rfl := oi_ hF
    exact cL cS _ _ lt_ ⟨(e + 1), bm.2.1, bm.2.2.1, bm.2.2.2, bk, aZ.2.2, dA, (.slice aA aD aB), aN, (.slice bY cf b5), be, b8, ha_, (fs_ O.wf (fs_ O.wf (fs_ O.wf (fs_ O.wf ((fs_ O.wf (fr_ O.wf) ac ir_).extR Y) U (an.fresh ac.n)) ay (Inn.app Inn.left (Inn.app (Inn.right Inn.left) (Inn.trans (Inn.right (Inn.right ir_)) (Nat.le_refl _) az)))) aJ (Inn.app (Inn.right Inn.left) (Inn.trans (Inn.trans (Inn.right (Inn.right ir_)) (Nat.le_refl _) az) cX aG))) am in_), it, iu, iv, iw, ix, (Inn.trans (Inn.trans (Inn.trans ir_ (Nat.le_refl _) az) cX aG) g3 bN), (Inn.trans ir_ (Nat.le_refl _) aP), (Inn.trans (Inn.trans ir_ (Nat.le_refl _) bi) cX bL), fE, (bN.dj cr ca.lt), (Dj.symm fF)⟩
   have hG := Zi cB ea
   refine Zf (cM _ _ (g_' ?_))
   obtain ⟨f2, hH⟩ := Zb hG
   refine w_' ((e + 1)) (Zo (by have := f2; omega)) (q_ (i_ (e + 1)) (Za ?_))
   have g5 := (t_ (t_ (t_ (t_ ad.n ag.n) aa.n) ab.n) O.n)
   have fG := (aP.dj (aW.djn ae.ltF) (ae.ltF.le g5))
   have fH := (au.djn bj.lt)
   have g6 := (t_ (t_ aa.n ab.n) O.n)
   have fI := (aP.dj (Dj.symm fH) (ao.ltF.le g6))
   have iy := (((ax.ext Y).fr U (an.djn ax.lt)).fr ay (Dj.app (Dj.symm fI) (Dj.app (Dj.symm fG) a_)))
   have d6 := (t_ (t_ ac.n Y.n) U.n)
   have d7 := (t_ Y.n U.n)
   have fJ := (aG.dj a_ (ax.lt.le d7))
   have fK := (bL.dj (Dj.symm cq) (ax.lt.le d7))
   obtain rfl := oi_ hH
   exact cL cS _ _ lt_ ⟨(e + 1), aZ.1, o2, aZ.2.1, bk, aZ.2.2, bG, (.slice aA aD aB), aN, (.slice bY cf b5), be, b8, ha_, (fs_ O.wf (fs_ O.wf ((fs_ O.wf (fr_ O.wf) ac ir_).extR Y) U (an.fresh ac.n)) ay (Inn.app Inn.left (Inn.app (Inn.right Inn.left) (Inn.trans (Inn.right (Inn.right ir_)) (Nat.le_refl _) az)))), dM, dN, iy, ca, dO, (Inn.trans (Inn.trans ir_ (Nat.le_refl _) az) d6 aG), (Inn.trans ir_ (Nat.le_refl _) aP), (Inn.trans (Inn.trans ir_ (Nat.le_refl _) bi) d6 bL), fJ, cr, (Dj.symm fK)⟩
  have hI := Zi bJ bK
  refine ZL (Zj (Zj (ZV ?_)))
  obtain rfl := oi_ hI
  obtain rfl := ZG b8
  exact gj _ _ ⟨aK, (.slice aA aD aB), aN, (.slice bq bS bw), aL, ha_, (fs_ O.wf (fr_ O.wf) ac ir_), aX, cP, ax, aH, cQ, (Inn.trans ir_ (Nat.le_refl _) az), (Inn.trans ir_ (Nat.le_refl _) aP), (Inn.trans ir_ (Nat.le_refl _) bi), a_, bB, cq⟩
 obtain ⟨bb, c4, bc, c5, bd, dD, cv, gD, gE, dK, dL, gF, cF, cG, cH, eF, eG, eH⟩ := hM
 obtain ⟨β, rfl⟩ := Zh dD
 clear dD
 obtain ⟨bs, bU, bz, rfl⟩ := dK.form
 obtain ⟨bt, bV, bA, rfl⟩ := dL.form
 refine gh _ _ (sq_ fun gz => ?_)
 refine ZW [0, 1, 2, 3, 4] (by kernel_rfl) ?_
 refine e_' (pt_ ak 0) (mr_ 33 0 (.agg #[.slice bs bU bz, .slice bt bV bA]) gF (e_' (pt_ ak 0) ?_))
 have g7 := (t_ (t_ ah.n aw.n) ad.n)
 have dw := (au.djn (aF.ltF.le g7))
 have g8 := (t_ (t_ (t_ ah.n aw.n) ad.n) ag.n)
 have fL := (aO.djn (aF.ltF.le g8))
 have dx := (b9.djn (aF.ltF.le ah.n))
 have dy := (b_.djn (aF.ltF.le ah.n))
 have iz := ((((((((aF.frS ah dn_).frS aw dn_).frS ad dn_).ext ag).ext aa).frS ab dw).frS O fL).frS cv (Dj.app dw (Dj.app dy dx)))
 obtain ⟨eA, he, bE, hK⟩ := ra_ 33 0 cv.wf iz [.slice bs bU bz, .slice bt bV bA] [.slice bs bU bz, .slice bt bV bA]
 refine fk_ he (ZS) (e_' (.bool true) ?_)
 refine ZR ?_
 refine gz _ _ ?_
 refine Zg ?_
 refine Zan (vs := [pt_ ak 0, .agg #[.slice bs bU bz, .slice bt bV bA], .bool true]) (ZcG (by kernel_rfl) (ZQ (Eq.trans (b := aL_ 33 (pt_ a7 0) eA) (by kernel_rfl) (hK.l_)) (rt_ (rfl)))) ?_
 have cg := (t_ (t_ av.n ai.n) ah.n)
 have cY := (t_ (t_ (t_ (t_ (t_ (t_ ah.n aw.n) ad.n) ag.n) aa.n) ab.n) O.n)
 have fM := (cF.dj dx (aF.ltF.le cY))
 have iA := (gD.fr bE (Dj.symm fM))
 have iB := (gE.frS bE (Dj.symm dy))
 have d8 := (t_ ah.n aw.n)
 have fN := (aW.djn (aF.ltF.le d8))
 have fO := (cG.dj fN (aF.ltF.le cY))
 have iC := (dK.fr bE (Dj.symm fO))
 have fP := (bh.djn (aF.ltF.le d8))
 have fQ := (cH.dj fP (aF.ltF.le cY))
 have iE := (dL.fr bE (Dj.symm fQ))
 have cZ := (t_ (t_ (t_ (t_ (t_ (t_ (t_ (t_ av.n ai.n) ah.n) aw.n) ad.n) ag.n) aa.n) ab.n) O.n)
 have d9 := (t_ (t_ (t_ av.n ai.n) ah.n) aw.n)
 have c0 := (t_ (t_ (t_ (t_ ad.n ag.n) aa.n) ab.n) O.n)
 have fR := (cF.dj cu (ae.ltF.le c0))
 have fS := (cG.dj (aW.djn ae.ltF) (ae.ltF.le c0))
 have fT := (cH.dj (bh.djn ae.ltF) (ae.ltF.le c0))
 obtain rfl := oi_ hj
 exact (ZjZ ⟨(.slice aT aY aU), bb, ak, (.slice bs bU bz), bc, (.slice bt bV bA), bd, rfl, (fs_ aE (fs_ aE (fs_ aE (fs_ aE (((fs_ aE (fs_ aE (fs_ aE (((f0_ aE).extR av).extR ai) ah in_) aw in_) ad in_).extR ag).extR aa) ab (au.fresh cR)) O (aO.fresh dU)) cv (Inn.app (au.fresh cR) (Inn.app (b_.fresh cg) (b9.fresh cg)))) bE (dC.fresh av.n)), iA, iB, iC, iE, (Inn.trans (b9.fresh cg) cZ cF), (b_.fresh cg), (Inn.trans (aW.fresh d9) cZ cG), (Inn.trans (bh.fresh d9) cZ cH), fR, eF, (Dj.symm fS), eG, (Dj.symm fT), eH⟩)
theorem ZhK {H : AH} {e : Nat} {Y : Value} {ag : Fp} {ab : List (Bool × List (Int × Int × Int) × List (Int × Int × Int))} {ac : Int} {ad : Int} {U : Int} {r : Er}
    (av : WF H) (ai : Nd Zc 3 H Y ab ag []) (ah : Row H e [Y, i_ ac, i_ ad]) (aa : Zdu ab ac ad U = some r) :
    ACalls Try.prog 39 #[pt_ e 0, i_ U] H fun v H' => ∃ (v3 : Value) (V : Fp), v = v3 /\ H = H' /\ Ev 90 129 H' v3 r V /\ Inn [] H V := by
 refine ab_ Try.func39 ?_
 unfold Zdu at aa
 refine sq_ fun an => g_' (q_ (.nilIface) (Za (an _ _ (sq_ fun ao => sq_ fun ap => g_' (q_ (pt_ e 0) (q_ (.bool false) (Za (ap _ _ ?_))))))))
 refine wb_ false (fun h => by cases h) fun _ => ?_
 refine Zf (ao _ _ (sq_ fun aq => sq_ fun ak => g_' (q_ (pt_ e 0) (q_ (i_ U) ?_))))
 obtain ⟨af, aj, ae⟩ := bs_ aa
 refine ck_ (ZY av ai ah aj) ?_
 rintro _ _ ⟨rfl, rfl⟩
 refine q_ (.bool (!af)) (Za (ak _ _ ?_))
 refine wb_ ((!af)) (fun O => ?_) fun O => ?_
 ·have ar := Ze O ae
  refine sq_ fun al => g_' (q_ (.iface 90 (i_ 7)) (q_ (.iface 90 (i_ 7)) (Za (al _ _ ?_))))
  refine Zg (Zn ?_)
  refine br_ [.iface 90 (i_ 7)] ?_
  obtain rfl := oi_ ar
  exact ⟨(.iface 90 (i_ 7)), [], rfl, rfl, Ev.no, in_⟩
 have au := ZK O ae
 refine Zf (aq _ _ (sq_ fun am => g_' (q_ (.nilIface) (Za (am _ _ ?_)))))
 refine Zg ?_
 refine br_ [.nilIface] ?_
 obtain rfl := oi_ au
 exact ⟨(.nilIface), [], rfl, rfl, Ev.nil, in_⟩
theorem Zel {H : AH} {e : Int} {r : Int}
    (U : WF H) (O : ZbZ e = some r) :
    ACalls Try.prog 56 #[i_ e] H fun v H' => v = i_ r /\ H = H' := by
 refine ab_ Try.func56 ?_
 unfold ZbZ at O
 refine sq_ fun k1 => g_' (q_ (i_ 0) (Za (k1 _ _ (sq_ fun k2 => g_' (q_ (i_ e) (l_' (i_ (max e 0)) (Zgw Try.prog [i_ e, i_ 0]) (Zg8 _ _) (l_' (i_ (min (max e 0) 1048576)) (Zfz Try.prog [i_ (max e 0), i_ 1048576]) (ZfN _ _) (q_ (i_ (min (max e 0) 1048576)) (Za (k2 _ _ ?_))))))))))
 refine Zg ?_
 refine br_ [i_ (min (max e 0) 1048576)] ?_
 obtain rfl := oi_ O
 exact ⟨rfl, rfl⟩
theorem Zg5 {H : AH} {e : Int} {O : Int} {Y : Int} {U : Int} {V : Int} {r : Int × Int}
    (ae : WF H) (ad : Zc1 e O Y U V = some r) :
    ACalls Try.prog 40 #[.agg #[i_ e, i_ O, i_ Y, i_ U, i_ V]] H fun v H' => v = .tuple #[i_ r.1, i_ r.2] /\ FrS [] H H' := by
 refine ab_ Try.func40 ?_
 unfold Zc1 at ad
 refine sq_ fun k1 => g_' ?_
 refine rl_ ae [i_ e, i_ O, i_ Y, i_ U, i_ V] fun b2 ac aa an ab => ?_
 refine q_ (i_ 0) (q_ (i_ 0) (Za (k1 _ _ (sq_ fun aj => g_' (q_ (.func (.func 56) #[] #[]) (Za (aj _ _ (sq_ fun ak => ?_))))))))
 refine ZW [0, 1, 2, 4, 5, 6, 3, 7, 8, 9] (by kernel_rfl) ?_
 refine e_' (.func (.func 56) #[] #[]) (e_' (pt_ b2 0) (mr_ 3 0 (i_ e) ab (e_' (.func (.func 56) #[] #[]) (e_' (pt_ b2 1) ?_))))
 refine Zdf (i_ O) (x := aL_ 3 (pt_ b2 1) ac) (by kernel_rfl) (ab.l_) ?_
 obtain ⟨af, ah, al⟩ := bs_ ad
 refine dk_ (Zel aa.wf ah) ?_
 rintro _ _ ⟨rfl, rfl⟩
 refine ⟨ZbX (y := aL_ 3 (pt_ b2 1) ac) (by kernel_rfl) (ab.l_) (ZS), ?_⟩
 obtain ⟨ag, ai, am⟩ := bs_ al
 refine dk_ (Zel aa.wf ai) ?_
 rintro _ _ ⟨rfl, rfl⟩
 refine ⟨ZaH (by kernel_rfl) (ZS), ?_⟩
 refine e_' (i_ af) (e_' (i_ ag) ?_)
 refine ZR ?_
 refine ak _ _ ?_
 refine Zg ?_
 refine br_ [i_ af, i_ ag] ?_
 obtain rfl := oi_ am
 exact ⟨rfl, ((f0_ ae).extR aa)⟩
theorem Zfp {H : AH} {aa : Value} {al : Fp} {s : List (Int × Int × Int)} {r : List (Int × Int × Int)}
    (Y : WF H) (ad : Sq Zc 3 H aa s al) (ab : Zct s = some r) :
    ACalls Try.prog 46 #[aa] H fun v H' => ∃ (ai : Value) (ac : Fp), v = ai /\ FrS [] H H' /\ Ow Zc 3 H' ai r ac /\ Inn [] H ac := by
 refine ab_ Try.func46 ?_
 unfold Zct at ab
 refine sq_ fun aq => g_' (q_ (.slice none 0 0) (Za (aq _ _ (sq_ fun ar => sq_ fun ah => g_' (q_ (aa) ?_)))))
 rcases Sq.nilOr ad with ⟨rfl, rfl⟩ | ⟨a9, au, aj, rfl⟩
 ·refine q_ (.bool true) (Za (ah _ _ ?_))
  refine wb_ true (fun _ => ?_) fun h => by cases h
  refine sq_ fun ao => g_' (q_ (.slice none 0 0) (Za (ao _ _ ?_)))
  refine Zg (Zn ?_)
  refine br_ [.slice none 0 0] ?_
  have hn_ : some ([] : List (Int × Int × Int)) = some r := by simpa [G] using ab
  obtain rfl := oi_ hn_
  exact ⟨(.slice none 0 0), [], rfl, (f0_ Y), (Ow.nil (by decide)), in_⟩
 refine q_ (.bool false) (Za (ah _ _ ?_))
 refine wb_ false (fun h => by cases h) fun _ => ?_
 refine Zf (ar _ _ (sq_ fun ap => g_' ?_))
 refine Zb9 (enc := Zc) (sz := 3) Y ([] : List (Int × Int × Int)) 0 (by decide) (fun _ _ => rfl) (fun _ _ => rfl) rfl (by kernel_rfl) fun aD f15 ay U ae af => ?_
 obtain ⟨aA, aC, aB, rfl⟩ := af.form
 refine q_ (.slice (some a9) au aj) ?_
 obtain ⟨am, aw⟩ := Zb ab
 have ax := (ad.ext U)
 obtain ⟨aE, az, f28, av, ak, ag, an⟩ := Ow.append (P := Try.prog) 24 U.wf af ax (fun _ _ => rfl) (at_ := #[69, 69]) rfl rfl (by kernel_rfl) (by kernel_rfl) (by decide) (by have := am; first | omega | (simp only [List.length_cons, List.length_nil] at this ⊢; omega) | (simp at this ⊢; omega))
 obtain ⟨e, V, O, rfl⟩ := ag.form
 refine ZaY (.slice e V O) (by kernel_rfl) (av) ?_
 refine q_ (.slice e V O) (Za (ap _ _ ?_))
 refine Zg ?_
 refine br_ [.slice e V O] ?_
 obtain rfl := oi_ aw
 exact ⟨(.slice e V O), f28, rfl, (fs_ Y ((f0_ Y).extR U) ak (ae.fresh (Nat.le_refl _))), ag, (Inn.trans (ae.fresh (Nat.le_refl _)) U.n an)⟩
theorem ZdO {H : AH} {U : Nat} {O : Value} {ah : Fp} {af : List (Bool × List (Int × Int × Int) × List (Int × Int × Int))} {am : Int} {an : Int} {e : Int} {r : List (Int × Int × Int)}
    (Y : WF H) (aa : Nd Zc 3 H O af ah []) (ai : Row H U [O, i_ am, i_ an]) (aj : ZaL af am an e = some r) :
    ACalls Try.prog 26 #[pt_ U 0, i_ e] H fun v H' => ∃ (ap : Value) (ag : Fp), v = ap /\ FrS [] H H' /\ Ow Zc 3 H' ap r ag /\ Inn [] H ag := by
 refine ab_ Try.func26 ?_
 unfold ZaL at aj
 refine sq_ fun aE => g_' (q_ (.slice none 0 0) (Za (aE _ _ (sq_ fun aF => sq_ fun aG => g_' (q_ (pt_ U 0) (q_ (i_ e) ?_))))))
 obtain ⟨aq, az, ao⟩ := bs_ aj
 refine ck_ (ZY Y aa ai az) ?_
 rintro _ _ ⟨rfl, rfl⟩
 refine q_ (.bool (!aq)) (Za (aG _ _ ?_))
 refine wb_ ((!aq)) (fun ad => ?_) fun ad => ?_
 ·have aI := Ze ad ao
  refine sq_ fun aC => g_' (q_ (.slice none 0 0) (Za (aC _ _ ?_)))
  refine Zg (Zn ?_)
  refine br_ [.slice none 0 0] ?_
  obtain rfl := oi_ aI
  exact ⟨(.slice none 0 0), [], rfl, (f0_ Y), (Ow.nil (by decide)), in_⟩
 have aJ := ZK ad ao
 refine Zf (aF _ _ (sq_ fun aD => g_' (q_ (pt_ U 0) (q_ (pt_ U 0) (q_ (pt_ U 0) (lr_ 114 0 (O) ai (q_ (i_ e) ?_)))))))
 obtain ⟨V, aK⟩ := Zb aJ
 refine aa.ix_ 114 V.1 V.2 (l_' (elp O 3 e.toNat 1) (ZA Try.prog 120 (elp O 3 e.toNat 0) 1) (Nd.fldq (d := 1) aa V.1 V.2 (by kernel_rfl)) ?_)
 obtain ⟨aM, aP, ay, ax⟩ := Nd.at aa V.1 V.2
 have ak : KdS Zc 3 H aM ((gt af e).2.1) ah O 3 e.toNat 1 := ax false (by simp)
 obtain ⟨ar, aH, au, rfl⟩ := ak.sq.form
 refine l_' (.slice ar aH au) (aL_ 69 (elp O 3 e.toNat 1) H) (ay _ _ _ _ (by kernel_rfl)) ?_
 obtain ⟨aQ, aA, aL⟩ := bs_ aK
 refine ck_ (Zfp Y ak.sq aA) ?_
 rintro aO aN ⟨_, aw, rfl, av, al, aB⟩
 obtain ⟨ab, ae, ac, rfl⟩ := al.form
 refine q_ (.slice ab ae ac) (Za (aD _ _ ?_))
 refine Zg ?_
 refine br_ [.slice ab ae ac] ?_
 obtain rfl := oi_ aL
 exact ⟨(.slice ab ae ac), aw, rfl, (fs_ Y (f0_ Y) av in_), al, (aB.fresh (Nat.le_refl _))⟩
theorem ZfT {H : AH} {U : Nat} {O : Value} {ah : Fp} {af : List (Bool × List (Int × Int × Int) × List (Int × Int × Int))} {am : Int} {an : Int} {e : Int} {r : List (Int × Int × Int)}
    (Y : WF H) (aa : Nd Zc 3 H O af ah []) (ai : Row H U [O, i_ am, i_ an]) (aj : Zbw af am an e = some r) :
    ACalls Try.prog 41 #[pt_ U 0, i_ e] H fun v H' => ∃ (ap : Value) (ag : Fp), v = ap /\ FrS [] H H' /\ Ow Zc 3 H' ap r ag /\ Inn [] H ag := by
 refine ab_ Try.func41 ?_
 unfold Zbw at aj
 refine sq_ fun aE => g_' (q_ (.slice none 0 0) (Za (aE _ _ (sq_ fun aF => sq_ fun aG => g_' (q_ (pt_ U 0) (q_ (i_ e) ?_))))))
 obtain ⟨aq, az, ao⟩ := bs_ aj
 refine ck_ (ZY Y aa ai az) ?_
 rintro _ _ ⟨rfl, rfl⟩
 refine q_ (.bool (!aq)) (Za (aG _ _ ?_))
 refine wb_ ((!aq)) (fun ad => ?_) fun ad => ?_
 ·have aI := Ze ad ao
  refine sq_ fun aC => g_' (q_ (.slice none 0 0) (Za (aC _ _ ?_)))
  refine Zg (Zn ?_)
  refine br_ [.slice none 0 0] ?_
  obtain rfl := oi_ aI
  exact ⟨(.slice none 0 0), [], rfl, (f0_ Y), (Ow.nil (by decide)), in_⟩
 have aJ := ZK ad ao
 refine Zf (aF _ _ (sq_ fun aD => g_' (q_ (pt_ U 0) (q_ (pt_ U 0) (q_ (pt_ U 0) (lr_ 114 0 (O) ai (q_ (i_ e) ?_)))))))
 obtain ⟨V, aK⟩ := Zb aJ
 refine aa.ix_ 114 V.1 V.2 (l_' (elp O 3 e.toNat 2) (ZA Try.prog 120 (elp O 3 e.toNat 0) 2) (Nd.fldq (d := 2) aa V.1 V.2 (by kernel_rfl)) ?_)
 obtain ⟨aP, aM, ay, ax⟩ := Nd.at aa V.1 V.2
 have ak : KdS Zc 3 H aM ((gt af e).2.2) ah O 3 e.toNat 2 := ax true (by simp)
 obtain ⟨ar, aH, au, rfl⟩ := ak.sq.form
 refine l_' (.slice ar aH au) (aL_ 69 (elp O 3 e.toNat 2) H) (ay _ _ _ _ (by kernel_rfl)) ?_
 obtain ⟨aQ, aA, aL⟩ := bs_ aK
 refine ck_ (Zfp Y ak.sq aA) ?_
 rintro aO aN ⟨_, aw, rfl, av, al, aB⟩
 obtain ⟨ab, ae, ac, rfl⟩ := al.form
 refine q_ (.slice ab ae ac) (Za (aD _ _ ?_))
 refine Zg ?_
 refine br_ [.slice ab ae ac] ?_
 obtain rfl := oi_ aL
 exact ⟨(.slice ab ae ac), aw, rfl, (fs_ Y (f0_ Y) av in_), al, (aB.fresh (Nat.le_refl _))⟩
theorem ZfK {H : AH} {e : Nat} {aa : Nat} {ao : Value} {aC : Fp} {ak : Value} {ad : Fp} {ab : Nat} {av : List (Bool × List (Int × Int × Int) × List (Int × Int × Int))} {aw : Int} {ax : Int} {af : Int} {ag : Int} {ay : List (Int × Int)} {az : Int -> Option (Int × Int × Int)} {U : Int} {V : Int} {r : List (Int × Int)}
    (ah : WF H) (aT : Nd Zc 3 H ao av aC []) (aS : Row H aa [ao, i_ aw, i_ ax]) (aE : Ow Zw 2 H ak ay ad) (aU : Ms .i64 ZO H ab az) (aj : Row H e [pt_ aa 0, i_ af, i_ ag, ak, .map (some ab)]) (al : Dj ad [e]) (au : Zcq av aw ax af ag ay az U V = some r) :
    ACalls Try.prog 126 #[pt_ e 3, .iface 152 (.agg #[.int .u64 U, i_ V])] H fun v H' => ∃ (aA : Value) (an : Fp), v = .tuple #[] /\ FrS ([e] ++ ad) H H' /\ Ow Zw 2 H' aA r an /\ Row H' e [pt_ aa 0, i_ af, i_ ag, aA, .map (some ab)] /\ Inn ad H an := by
 refine ab_ Try.func126 ?_
 unfold Zcq at au
 refine ZW [0, 1, 2, 3, 4, 5, 6, 7, 8, 9] (by kernel_rfl) ?_
 refine e_' (pt_ e 3) (e_' (pt_ e 3) (e_' (pt_ e 3) (mr_ 96 3 (ak) aj (e_' (.iface 152 (.agg #[.int .u64 U, i_ V])) (e_' (.agg #[.int .u64 U, i_ V]) ?_)))))
 refine Ziy (enc := Zw) (sz := 2) ah [(U, V)] 1 (by decide) (fun _ _ => rfl) (fun _ _ => rfl) rfl (by kernel_rfl) fun aY aR aM O aV aq => ?_
 obtain ⟨aP, aW, aQ, rfl⟩ := aq.form
 have aJ := (aE.ext O)
 obtain ⟨aD, aH⟩ := Zb au
 obtain ⟨aX, aN, f23, aF, ai, ar, ap⟩ := Ow.append (P := Try.prog) 16 O.wf aJ aq.sq (fun _ _ => rfl) (at_ := #[96, 96]) rfl rfl (by kernel_rfl) (by kernel_rfl) (by decide) (by have := aD; first | omega | (simp only [List.length_cons, List.length_nil] at this ⊢; omega) | (simp at this ⊢; omega))
 obtain ⟨Y, ae, ac, rfl⟩ := ar.form
 refine Zg3 (.slice Y ae ac) (by kernel_rfl) (aF) (ZS) ?_
 refine e_' (pt_ e 3) ?_
 have aK := ((aj.ext O).frS ai al)
 obtain ⟨aO, aG, am, aI⟩ := rb_ 96 3 ai.wf aK (.slice Y ae ac) [pt_ aa 0, i_ af, i_ ag, .slice Y ae ac, .map (some ab)]
 refine fk_ aG (ZS) ?_
 refine ZR ?_
 refine ZeY (vs := []) (rfl) ?_
 have aB := (ap.dj al (aj.ltF.le O.n))
 have aL := (ar.fr am (Dj.symm aB))
 obtain rfl := oi_ aH
 exact ⟨(.slice Y ae ac), f23, rfl, (fs_ ah (fs_ ah ((fr_ ah).extR O) ai (Inn.right ir_)) am Inn.left), aL, aI, (Inn.trans ir_ O.n ap)⟩
theorem Zd3 {H : AH} {e : Value} {U : Fp} {q : List (Int × Int)} {r : Int}
    (Y : WF H) (V : Sq Zw 2 H e q U) (O : ZaZ q = some r) :
    ACalls Try.prog 121 #[e] H fun v H' => v = i_ r /\ H = H' := by
 refine ab_ Try.func121 ?_
 unfold ZaZ at O
 refine sq_ fun k1 => g_' (q_ (i_ 0) (Za (k1 _ _ (sq_ fun k2 => g_' (q_ (e) (V.ln_ 96 (q_ (i_ (q.length : Int)) (Za (k2 _ _ ?_)))))))))
 refine Zg ?_
 refine br_ [i_ (q.length : Int)] ?_
 obtain rfl := oi_ O
 exact ⟨rfl, rfl⟩
theorem Zc5 {H : AH} {e : Value} {ae : Fp} {q : List (Int × Int)} {i : Int} {j : Int} {r : Bool}
    (aj : WF H) (V : Sq Zw 2 H e q ae) (ab : Zak q i j = some r) :
    ACalls Try.prog 122 #[e, i_ i, i_ j] H fun v H' => v = .bool r /\ H = H' := by
 refine ab_ Try.func122 ?_
 unfold Zak at ab
 refine sq_ fun k1 => g_' (q_ (.bool false) (Za (k1 _ _ (sq_ fun k2 => ?_))))
 refine ZW [0, 1, 2, 3, 4, 5, 6, 7, 8, 9, 10, 11, 12, 13, 14, 15, 16, 17, 18, 19, 20, 21, 22, 23, 24, 25, 26, 27, 28, 29, 30, 31, 32, 33, 34, 35, 36, 37] (by kernel_rfl) ?_
 refine e_' (e) (e_' (i_ i) ?_)
 obtain ⟨O, ah⟩ := Zb ab
 refine V.mx_ 96 O.1 O.2 (m_' (elp e 2 i.toNat 0) (ZA Try.prog 152 (elp e 2 i.toNat 0) 0) (Sq.fldq (d := 0) V O.1 O.2 (by kernel_rfl)) (me_ 27 0 (.int .u64 ((gt q i).1)) V O.1 O.2 (e_' (e) (e_' (i_ j) ?_))))
 obtain ⟨U, ac⟩ := Zb ah
 refine V.mx_ 96 U.1 U.2 (m_' (elp e 2 j.toNat 0) (ZA Try.prog 152 (elp e 2 j.toNat 0) 0) (Sq.fldq (d := 0) V U.1 U.2 (by kernel_rfl)) (me_ 27 0 (.int .u64 ((gt q j).1)) V U.1 U.2 ?_))
 refine db_ (((gt q i).1) < ((gt q j).1)) (fun aa => ?_) fun aa => ?_
 ·have ai := Ze aa ac
  refine e_' (.bool true) (j_' (j_' (j_' (j_' (j_' (j_' (j_' (j_' (j_' (j_' (j_' (j_' (j_' (j_' (j_' (j_' (j_' (j_' (j_' (j_' (j_' (j_' (j_' (j_' (e_' (.bool true) (e_' (.bool true) ?_))))))))))))))))))))))))))
  refine ZR ?_
  refine k2 _ _ ?_
  refine Zg ?_
  refine br_ [.bool true] ?_
  obtain rfl := oi_ ai
  exact ⟨rfl, rfl⟩
 have ad := Zi aa ac
 refine e_' (.bool false) (e_' (e) (e_' (i_ i) (V.mx_ 96 O.1 O.2 (m_' (elp e 2 i.toNat 0) (ZA Try.prog 152 (elp e 2 i.toNat 0) 0) (Sq.fldq (d := 0) V O.1 O.2 (by kernel_rfl)) (me_ 27 0 (.int .u64 ((gt q i).1)) V O.1 O.2 (e_' (e) (e_' (i_ j) (V.mx_ 96 U.1 U.2 (m_' (elp e 2 j.toNat 0) (ZA Try.prog 152 (elp e 2 j.toNat 0) 0) (Sq.fldq (d := 0) V U.1 U.2 (by kernel_rfl)) (me_ 27 0 (.int .u64 ((gt q j).1)) V U.1 U.2 ?_))))))))))
 refine db_ (((gt q i).1) = ((gt q j).1)) (fun Y => ?_) fun Y => ?_
 ·have af := Ze Y ad
  refine e_' (.bool true) (e_' (e) (e_' (i_ i) (V.mx_ 96 O.1 O.2 (m_' (elp e 2 i.toNat 1) (ZA Try.prog 152 (elp e 2 i.toNat 0) 1) (Sq.fldq (d := 1) V O.1 O.2 (by kernel_rfl)) (me_ 3 1 (i_ ((gt q i).2)) V O.1 O.2 (e_' (e) (e_' (i_ j) (V.mx_ 96 U.1 U.2 (m_' (elp e 2 j.toNat 1) (ZA Try.prog 152 (elp e 2 j.toNat 0) 1) (Sq.fldq (d := 1) V U.1 U.2 (by kernel_rfl)) (me_ 3 1 (i_ ((gt q j).2)) V U.1 U.2 (e_' (.bool (decide (((gt q i).2) < ((gt q j).2)))) (e_' (.bool (decide (((gt q i).2) < ((gt q j).2)))) (e_' (.bool (decide (((gt q i).2) < ((gt q j).2)))) (e_' (.bool (decide (((gt q i).2) < ((gt q j).2)))) ?_))))))))))))))
  refine ZR ?_
  refine k2 _ _ ?_
  refine Zg ?_
  refine br_ [.bool (decide (((gt q i).2) < ((gt q j).2)))] ?_
  obtain rfl := oi_ af
  exact ⟨rfl, rfl⟩
 have ag := Zi Y ad
 refine e_' (.bool false) (j_' (j_' (j_' (j_' (j_' (j_' (j_' (j_' (j_' (j_' (j_' (e_' (.bool false) (e_' (.bool false) (e_' (.bool false) ?_))))))))))))))
 refine ZR ?_
 refine k2 _ _ ?_
 refine Zg ?_
 refine br_ [.bool false] ?_
 obtain rfl := oi_ ag
 exact ⟨rfl, rfl⟩
theorem ZcW {H : AH} {O : Value} {aa : Fp} {q : List (Int × Int)} {i : Int} {j : Int} {r : List (Int × Int)}
    (Y : WF H) (V : Ow Zw 2 H O q aa) (ae : Zah q i j = some r) :
    ACalls Try.prog 123 #[O, i_ i, i_ j] H fun v H' => v = .tuple #[] /\ FrS aa H H' /\ Ow Zw 2 H' O r aa := by
 refine ab_ Try.func123 ?_
 unfold Zah at ae
 refine ZW [0, 1, 2, 3, 4, 5, 6, 7, 8, 9, 10, 11, 12, 13, 14, 15] (by kernel_rfl) ?_
 refine e_' (O) (e_' (i_ i) (e_' (O) (e_' (i_ j) (e_' (O) (e_' (i_ j) ?_)))))
 obtain ⟨U, ak⟩ := Zb ae
 refine V.sq.mx_ 96 U.1 U.2 (me_ 152 0 (.agg #[.int .u64 ((gt q j).1), i_ ((gt q j).2)]) V.sq U.1 U.2 (e_' (O) (e_' (i_ i) ?_)))
 obtain ⟨e, al⟩ := Zb ak
 refine V.sq.mx_ 96 e.1 e.2 (me_ 152 0 (.agg #[.int .u64 ((gt q i).1), i_ ((gt q i).2)]) V.sq e.1 e.2 (V.sq.mx_ 96 e.1 e.2 ?_))
 obtain ⟨an, ai, ab, ad⟩ := Ow.store (P := Try.prog) (t := 152) (off := 0) Y V e.1 e.2 (.agg #[.int .u64 ((gt q j).1), i_ ((gt q j).2)]) [.int .u64 ((gt q j).1), i_ ((gt q j).2)] (by kernel_rfl) (by kernel_rfl) rfl ((gt q j).1, (gt q j).2) (Nat.le_of_ble_eq_true rfl) (by kernel_rfl)
 refine fk_ ai (ZS) ?_
 obtain ⟨ac, aj⟩ := Zb al
 refine ad.sq.mx_ 96 U.1 ac ?_
 obtain ⟨am, ah, af, ag⟩ := Ow.store (P := Try.prog) (t := 152) (off := 0) ab.wf ad U.1 ac (.agg #[.int .u64 ((gt q i).1), i_ ((gt q i).2)]) [.int .u64 ((gt q i).1), i_ ((gt q i).2)] (by kernel_rfl) (by kernel_rfl) rfl ((gt q i).1, (gt q i).2) (Nat.le_of_ble_eq_true rfl) (by kernel_rfl)
 refine fk_ ah (ZS) ?_
 refine ZR ?_
 refine ZeY (vs := []) (rfl) ?_
 obtain rfl := oi_ aj
 exact ⟨rfl, (fs_ Y (fs_ Y (fr_ Y) ab ir_) af ir_), ag⟩
theorem ZfY {H : AH} {O : Nat} {aj : Nat} {av : Value} {aK : Fp} {U : Value} {V : Fp} {ak : Nat} {am : List (Bool × List (Int × Int × Int) × List (Int × Int × Int))} {an : Int} {ao : Int} {ap : Int} {aq : Int} {ag : List (Int × Int)} {ar : Int -> Option (Int × Int × Int)} {j : Int} {r : List (Int × Int)}
    (Y : WF H) (bm : Nd Zc 3 H av am aK []) (bl : Row H aj [av, i_ an, i_ ao]) (aN : Ow Zw 2 H U ag V) (bn : Ms .i64 ZO H ak ar) (au : Row H O [pt_ aj 0, i_ ap, i_ aq, U, .map (some ak)]) (al : Dj V [O]) (aA : ZbK am an ao ap aq ag ar j = some r) :
    ACalls Try.prog 79 #[.iface 150 (pt_ O 3), i_ j] H fun v H' => v = .tuple #[] /\ FrS V H H' /\ Ow Zw 2 H' U r V := by
 refine ab_ Try.func79 ?_
 unfold ZbK at aA
 obtain ⟨aE, aQ, bc⟩ := bs_ aA
 refine ZC (fun α ad => Has α [] /\ FrS V H ad /\ Ow Zw 2 ad U aE V) (fun _ aT => ?_) (fun α ad hM => ?_)
 ·refine Zk ?_
  obtain ⟨aD, aP⟩ := Zv.1 aQ
  refine ZJ (fun n α ab => ∃ (h0 : List (Int × Int)), ∃ (e : Int), ZN (fun zz_ => Za2 zz_.1 zz_.2) n (h0, e) = some aE /\ Has α [(0, .iface 150 (pt_ O 3)), (1, i_ e)] /\ FrS V H ab /\ Ow Zw 2 ab U h0 V) aD ⟨ag, j, aP, ha_, (fr_ Y), aN⟩ ?_
  rintro aD α ab ⟨h0, e, aO, ax, aa, ah⟩ bk aU
  obtain ⟨a2, bi, rfl, ac, az⟩ := Zx aO
  obtain ⟨β, rfl⟩ := Zh ax
  clear ax
  replace ac : Za2 h0 e = some bi := ac
  unfold Za2 at ac
  refine Zk (sq_ fun aV => g_' (q_ (i_ e) ?_))
  obtain ⟨aL, a6⟩ := Zb ac
  refine w_' ((e - 1)) (Zo aL) ?_
  obtain ⟨aM, a7⟩ := Zb a6
  refine w_' ((Int.tdiv (e - 1) 2)) (Zo aM) (q_ (i_ (Int.tdiv (e - 1) 2)) (Za (aV _ _ (sq_ fun aW => sq_ fun aX => ?_))))
  obtain ⟨aF, aB, aG⟩ := bs_ a7
  refine ZC (fun α ai => Has α [(0, .iface 150 (pt_ O 3)), (1, i_ e), (4, i_ (Int.tdiv (e - 1) 2)), (17, .bool aF)] /\ ab = ai) (fun _ aC => ?_) (fun α ai hM => ?_)
  ·refine g_' (q_ (i_ (Int.tdiv (e - 1) 2)) (q_ (i_ e) ?_))
   refine sb_ ((Int.tdiv (e - 1) 2) = e) (fun ae => ?_) fun ae => ?_
   ·have a8 := Ze ae aB
    refine q_ (.bool true) (n_' (n_' (n_' (n_' (n_' (q_ (.bool true) (Za ?_)))))))
    obtain rfl := oi_ a8
    exact aC _ _ ⟨ha_, rfl⟩
   have a_ := Zi ae aB
   refine q_ (.bool false) (q_ (.iface 150 (pt_ O 3)) (q_ (i_ e) (q_ (i_ (Int.tdiv (e - 1) 2)) ?_)))
   obtain ⟨aH, aR, ba⟩ := bs_ a_
   have bf := (au.frS aa al)
   refine Zf4 122 96 ⟨O, 3, none⟩ #[i_ e, i_ (Int.tdiv (e - 1) 2)] (U) #[U, i_ e, i_ (Int.tdiv (e - 1) 2)] (by kernel_rfl) (by kernel_rfl) (bf.l_) (Zc5 aa.wf ah.sq aR) ?_
   rintro _ _ ⟨rfl, rfl⟩
   refine q_ (.bool (!aH)) (q_ (.bool (!aH)) (Za ?_))
   obtain rfl := oi_ ba
   exact aC _ _ ⟨ha_, rfl⟩
  obtain ⟨ay, rfl⟩ := hM
  obtain ⟨β, rfl⟩ := Zh ay
  clear ay
  refine aX _ _ ?_
  refine wb_ (aF) (fun af => ?_) fun af => ?_
  ·have bb := Ze af aG
   refine ZL (Zj (ZkH (by decide) (Zj (ZV ?_))))
   obtain rfl := oi_ bb
   obtain rfl := ZG az
   exact aT _ _ ⟨trivial, (fs_ Y (fr_ Y) aa ir_), ah⟩
  have bd := ZK af aG
  refine Zf (aW _ _ (sq_ fun aY => g_' (q_ (.iface 150 (pt_ O 3)) (q_ (i_ (Int.tdiv (e - 1) 2)) (q_ (i_ e) ?_)))))
  obtain ⟨bh, aS, be⟩ := bs_ bd
  have bg := (au.frS aa al)
  refine Zf4 123 96 ⟨O, 3, none⟩ #[i_ (Int.tdiv (e - 1) 2), i_ e] (U) #[U, i_ (Int.tdiv (e - 1) 2), i_ e] (by kernel_rfl) (by kernel_rfl) (bg.l_) (ZcW aa.wf ah aS) ?_
  rintro _ bj ⟨rfl, aI, aZ⟩
  refine Za (aY _ _ (g_' (q_ (i_ (Int.tdiv (e - 1) 2)) (q_ (i_ (Int.tdiv (e - 1) 2)) (Za ?_)))))
  obtain rfl := oi_ be
  exact aU a2 _ _ lt_ ⟨bh, (Int.tdiv (e - 1) 2), az, ha_, (fs_ Y (fs_ Y (fr_ Y) aa ir_) aI ir_), aZ⟩
 obtain ⟨aw, aJ, a1⟩ := hM
 obtain ⟨β, rfl⟩ := Zh aw
 clear aw
 refine ZeY (vs := []) (rfl) ?_
 obtain rfl := oi_ bc
 exact ⟨rfl, (fs_ Y (fr_ Y) aJ ir_), a1⟩
theorem Zfw {H : AH} {e : Nat} {V : Nat} {aB : Value} {ae : Fp} {aC : Value} {O : Fp} {Y : Nat} {aq : List (Bool × List (Int × Int × Int) × List (Int × Int × Int))} {ar : Int} {au : Int} {af : Int} {ag : Int} {av : List (Int × Int)} {aw : Int -> Option (Int × Int × Int)} {ad : Int} {al : Int} {r : List (Int × Int)}
    (aa : WF H) (az : Nd Zc 3 H aB aq ae []) (ay : Row H V [aB, i_ ar, i_ au]) (aN : Ow Zw 2 H aC av O) (aA : Ms .i64 ZO H Y aw) (ax : Row H e [pt_ V 0, i_ af, i_ ag, aC, .map (some Y)]) (an : Dj O [e]) (aK : Dj O ae) (aH : Dj [e] ae) (aI : Dj O [V]) (aF : Dj [e] [V]) (aJ : Dj O [Y]) (aG : Dj [e] [Y]) (aD : Zbc aq ar au af ag av aw ad al = some r) :
    ACalls Try.prog 67 #[.iface 150 (pt_ e 3), .iface 152 (.agg #[.int .u64 ad, i_ al])] H fun v H' => ∃ (aE : Value) (ap : Fp), v = .tuple #[] /\ FrS ([e] ++ O) H H' /\ Ow Zw 2 H' aE r ap /\ Row H' e [pt_ V 0, i_ af, i_ ag, aE, .map (some Y)] /\ Inn O H ap := by
 refine ab_ Try.func67 ?_
 unfold Zbc at aD
 refine sq_ fun aR => g_' (q_ (.iface 150 (pt_ e 3)) (q_ (.iface 152 (.agg #[.int .u64 ad, i_ al])) ?_))
 obtain ⟨ba, aO, aT⟩ := bs_ aD
 refine ck_ (ZfK aa az ay aN aA ax an aO) ?_
 rintro _ a6 ⟨a8, aL, rfl, U, ai, aj, ah⟩
 obtain ⟨ab, ak, ac, rfl⟩ := ai.form
 refine Za (aR _ _ (g_' (q_ (.iface 150 (pt_ e 3)) (q_ (.iface 150 (pt_ e 3)) ?_))))
 obtain ⟨a2, aP, aU⟩ := bs_ aT
 refine Zf4 121 96 ⟨e, 3, none⟩ #[] (.slice ab ak ac) #[.slice ab ak ac] (by kernel_rfl) (by kernel_rfl) (aj.l_) (Zd3 U.wf ai.sq aP) ?_
 rintro _ _ ⟨rfl, rfl⟩
 obtain ⟨aM, aV⟩ := Zb aU
 refine w_' ((a2 - 1)) (Zo aM) ?_
 have aX := (az.fr U (Dj.app aH aK))
 have aY := (ay.frS U (Dj.app aF aI))
 have aZ := (aA.frS U (Dj.app aG aJ))
 have am := (ah.dj an ax.ltF)
 obtain ⟨a_, aQ, aW⟩ := bs_ aV
 refine ck_ (ZfY U.wf aX aY ai aZ aj am aQ) ?_
 rintro _ a7 ⟨rfl, ao, aS⟩
 refine Za ?_
 refine ZeY (vs := []) (rfl) ?_
 have a1 := (aj.frS ao am)
 obtain rfl := oi_ aW
 exact ⟨(.slice ab ak ac), aL, rfl, (fs_ aa (fs_ aa (fr_ aa) U ir_) ao (Inn.trans (Inn.right ir_) (Nat.le_refl _) ah)), aS, a1, (Inn.trans ir_ (Nat.le_refl _) ah)⟩
end Go.Vd

/-! (KSb6) -/

set_option maxRecDepth 100000
set_option maxHeartbeats 4000000
set_option linter.unusedVariables false
namespace Go.Vd
open Go.Proofs
attribute [local irreducible] Zm Zp aWp
theorem Zen {H : AH} {e : Nat} {ac : Nat} {am : Value} {ae : Fp} {an : Value} {aa : Fp} {O : Nat} {av : List (Bool × List (Int × Int × Int) × List (Int × Int × Int))} {aw : Int} {ax : Int} {ai : Int} {aj : Int} {ay : List (Int × Int)} {az : Int -> Option (Int × Int × Int)} {ab : Int} {U : Int} {hops : Int} {ad : Int} {r : (Int -> Option (Int × Int × Int)) × List (Int × Int)}
    (af : WF H) (aQ : Nd Zc 3 H am av ae []) (aP : Row H ac [am, i_ aw, i_ ax]) (aR : Ow Zw 2 H an ay aa) (al : Ms .i64 ZO H O az) (aO : Row H e [pt_ ac 0, i_ ai, i_ aj, an, .map (some O)]) (aG : Dj [O] ae) (aF : Dj [O] [ac]) (ah : Dj [O] aa) (ag : Dj [O] [e]) (aJ : Dj aa [e]) (aL : Dj aa ae) (aI : Dj [e] ae) (aK : Dj aa [ac]) (aH : Dj [e] [ac]) (ao : Zbb av aw ax ai aj ay az ab U hops ad = some r) :
    ACalls Try.prog 53 #[pt_ e 0, i_ ab, .agg #[.int .u64 U, i_ hops, i_ ad]] H fun v H' => ∃ (au : Value) (f6 : Fp), v = .tuple #[] /\ FrS ([e] ++ ([O] ++ aa)) H H' /\ Ms .i64 ZO H' O r.1 /\ Ow Zw 2 H' au r.2 f6 /\ Row H' e [pt_ ac 0, i_ ai, i_ aj, au, .map (some O)] /\ Inn aa H f6 := by
 refine ab_ Try.func53 ?_
 unfold Zbb at ao
 refine sq_ fun aV => g_' ?_
 refine rl_ af [.int .u64 U, i_ hops, i_ ad] fun aC bd V aS ar => ?_
 refine Za (aV _ _ (sq_ fun aW => ?_))
 refine ZW [0, 1, 2, 3, 4, 5, 6] (by kernel_rfl) ?_
 refine e_' (pt_ e 0) (e_' (pt_ e 0) (e_' (pt_ e 4) ?_))
 have aA := (aO.ext V)
 refine mr_ 94 4 (.map (some O)) aA (e_' (i_ ab) (mr_ 101 0 (.agg #[.int .u64 U, i_ hops, i_ ad]) ar ?_))
 have a6 := (al.ext V)
 obtain ⟨be, a1, aM, aq⟩ := a6.put (P := Try.prog) V.wf (t := 94) (zv := .agg #[.int .u64 0, i_ 0, i_ 0]) (val := .agg #[.int .u64 U, i_ hops, i_ ad]) (by kernel_rfl) ab (U, hops, ad) rfl
 have Y := aM.frS (W := [O]) (List.mem_singleton.2 rfl)
 refine fk_ a1 (ZS) ?_
 refine ZR ?_
 refine aW _ _ ?_
 refine ZW [0, 1, 2, 3, 4, 5, 6, 7, 8, 9] (by kernel_rfl) ?_
 refine e_' (pt_ e 0) (e_' (pt_ e 0) (e_' (pt_ e 3) (e_' (.iface 150 (pt_ e 3)) (e_' (pt_ aC 0) ?_))))
 have aE := (aS.djn al.ltF)
 have a7 := (ar.frS Y (Dj.symm aE))
 refine mr_ 27 0 (.int .u64 U) a7 (e_' (i_ ab) (e_' (.agg #[.int .u64 U, i_ ab]) (e_' (.iface 152 (.agg #[.int .u64 U, i_ ab])) ?_)))
 have a8 := ((aQ.ext V).fr Y aG)
 have a_ := ((aP.ext V).frS Y aF)
 have ba := ((aR.ext V).fr Y ah)
 have bb := (aA.frS Y ag)
 obtain ⟨bh, aT, a2⟩ := bs_ ao
 refine dk_ (Zfw Y.wf a8 a_ ba aq bb aJ aL aI aK aH (Dj.symm ah) (Dj.symm ag) aT) ?_
 rintro _ bf ⟨bg, aN, rfl, ak, ap, aX, aU⟩
 obtain ⟨aB, aY, aD, rfl⟩ := ap.form
 refine ⟨ZS, ?_⟩
 refine ZR ?_
 refine ZeY (vs := []) (rfl) ?_
 have bc := (aq.frS ak (Dj.app (Dj.symm ag) (Dj.symm ah)))
 have aZ := (t_ V.n Y.n)
 obtain rfl := oi_ a2
 exact ⟨(.slice aB aY aD), aN, rfl, (fs_ af (fs_ af ((fr_ af).extR V) Y (Inn.right Inn.left)) ak (Inn.app Inn.left (Inn.right (Inn.right ir_)))), bc, ap, aX, (Inn.trans ir_ aZ aU)⟩
theorem Zfm {H : AH} {U : Nat} {av : Nat} {aF : Value} {a6 : Fp} {Y : Value} {ad : Fp} {aw : Nat} {ay : List (Bool × List (Int × Int × Int) × List (Int × Int × Int))} {az : Int} {aA : Int} {aB : Int} {aC : Int} {ao : List (Int × Int)} {aD : Int -> Option (Int × Int × Int)} {O : Int} {V : Int} {r : Bool × List (Int × Int)}
    (ab : WF H) (bY : Nd Zc 3 H aF ay a6 []) (bX : Row H av [aF, i_ az, i_ aA]) (ba : Ow Zw 2 H Y ao ad) (bZ : Ms .i64 ZO H aw aD) (aE : Row H U [pt_ av 0, i_ aB, i_ aC, Y, .map (some aw)]) (ax : Dj ad [U]) (aL : Zbl ay az aA aB aC ao aD O V = some r) :
    ACalls Try.prog 80 #[.iface 150 (pt_ U 3), i_ O, i_ V] H fun v H' => v = .bool r.1 /\ FrS ad H H' /\ Ow Zw 2 H' Y r.2 ad := by
 refine ab_ Try.func80 ?_
 unfold Zbl at aL
 refine sq_ fun k3 => g_' (q_ (.bool false) (Za (k3 _ _ (sq_ fun bl => g_' (q_ (i_ O) (q_ (i_ O) (Za (bl _ _ (sq_ fun bo => ?_)))))))))
 obtain ⟨ae, bd, bN⟩ := bs_ aL
 refine ZC (fun α ai => Has α [(1, i_ O), (7, i_ ae.1)] /\ FrS ad H ai /\ Ow Zw 2 ai Y ae.2 ad) (fun _ aP => ?_) (fun α ai hM => ?_)
 ·refine Zk ?_
  obtain ⟨aT, bc⟩ := Zv.1 bd
  refine ZJ (fun n α af => ∃ (h0 : List (Int × Int)), ∃ (e : Int), ZN (fun zz_ => ZaQ V zz_.1 zz_.2) n (h0, e) = some ae /\ Has α [(0, .iface 150 (pt_ U 3)), (1, i_ O), (2, i_ V), (7, i_ e)] /\ FrS ad H af /\ Ow Zw 2 af Y h0 ad) aT ⟨ao, O, bc, ha_, (fr_ ab), ba⟩ ?_
  rintro aT α af ⟨h0, e, bb, aH, ac, ag⟩ bW bh
  obtain ⟨bx, bU, rfl, ah, ap⟩ := Zx bb
  obtain ⟨β, rfl⟩ := Zh aH
  clear aH
  replace ah : ZaQ V h0 e = some bU := ah
  unfold ZaQ at ah
  refine Zk (sq_ fun bi => g_' (q_ (i_ e) ?_))
  obtain ⟨a7, bz⟩ := Zb ah
  refine w_' ((2 * e)) (Zo a7) ?_
  obtain ⟨a8, bA⟩ := Zb bz
  refine w_' (((2 * e) + 1)) (Zo a8) (q_ (i_ ((2 * e) + 1)) (Za (bi _ _ (sq_ fun bj => sq_ fun bk => ?_))))
  obtain ⟨aU, aM, aW⟩ := bs_ bA
  refine ZC (fun α aq => Has α [(0, .iface 150 (pt_ U 3)), (1, i_ O), (2, i_ V), (7, i_ e), (8, i_ ((2 * e) + 1)), (21, .bool aU)] /\ af = aq) (fun _ aQ => ?_) (fun α aq hM => ?_)
  ·refine g_' (q_ (i_ ((2 * e) + 1)) (q_ (i_ V) ?_))
   refine sb_ (((2 * e) + 1) ≥ V) (fun aj => ?_) fun aj => ?_
   ·have bB := Ze aj aM
    refine q_ (.bool true) (n_' (n_' (q_ (.bool true) (Za ?_))))
    obtain rfl := oi_ bB
    exact aQ _ _ ⟨ha_, rfl⟩
   have bC := Zi aj aM
   refine q_ (.bool false) (q_ (i_ ((2 * e) + 1)) (q_ (.bool (decide (((2 * e) + 1) < 0))) (q_ (.bool (decide (((2 * e) + 1) < 0))) (Za ?_))))
   obtain rfl := oi_ bC
   exact aQ _ _ ⟨ha_, rfl⟩
  obtain ⟨aI, rfl⟩ := hM
  obtain ⟨β, rfl⟩ := Zh aI
  clear aI
  refine bk _ _ ?_
  refine wb_ (aU) (fun ak => ?_) fun ak => ?_
  ·have bD := Ze ak aW
   refine ZL (Zj (ZkH (by decide) (Zj (ZV ?_))))
   obtain rfl := oi_ bD
   obtain rfl := ZG ap
   exact aP _ _ ⟨ha_, (fs_ ab (fr_ ab) ac ir_), ag⟩
  have bE := ZK ak aW
  refine Zf (bj _ _ (sq_ fun bm => g_' (q_ (i_ ((2 * e) + 1)) (q_ (i_ ((2 * e) + 1)) (Za (bm _ _ (sq_ fun bn => sq_ fun bp => g_' (q_ (i_ ((2 * e) + 1)) ?_))))))))
  obtain ⟨a_, bF⟩ := Zb bE
  refine w_' ((((2 * e) + 1) + 1)) (Zo a_) (q_ (i_ (((2 * e) + 1) + 1)) (Za (bp _ _ (sq_ fun bq => ?_))))
  obtain ⟨aV, aN, bG⟩ := bs_ bF
  refine ZC (fun α ar => Has α [(0, .iface 150 (pt_ U 3)), (1, i_ O), (2, i_ V), (7, i_ e), (9, i_ ((2 * e) + 1)), (10, i_ (((2 * e) + 1) + 1)), (33, .bool aV)] /\ af = ar) (fun _ aR => ?_) (fun α ar hM => ?_)
  ·refine g_' (q_ (i_ (((2 * e) + 1) + 1)) (q_ (i_ V) ?_))
   refine sb_ ((((2 * e) + 1) + 1) < V) (fun al => ?_) fun al => ?_
   ·have bH := Ze al aN
    refine q_ (.bool true) (q_ (.iface 150 (pt_ U 3)) (q_ (i_ (((2 * e) + 1) + 1)) (q_ (i_ ((2 * e) + 1)) ?_)))
    obtain ⟨bS, be, bI⟩ := bs_ bH
    have bR := (aE.frS ac ax)
    refine Zf4 122 96 ⟨U, 3, none⟩ #[i_ (((2 * e) + 1) + 1), i_ ((2 * e) + 1)] (Y) #[Y, i_ (((2 * e) + 1) + 1), i_ ((2 * e) + 1)] (by kernel_rfl) (by kernel_rfl) (bR.l_) (Zc5 ac.wf ag.sq be) ?_
    rintro _ _ ⟨rfl, rfl⟩
    refine q_ (.bool bS) (Za ?_)
    obtain rfl := oi_ bI
    exact aR _ _ ⟨ha_, rfl⟩
   have bJ := Zi al aN
   refine q_ (.bool false) (n_' (n_' (n_' (n_' (q_ (.bool false) (Za ?_))))))
   obtain rfl := oi_ bJ
   exact aR _ _ ⟨ha_, rfl⟩
  obtain ⟨aJ, rfl⟩ := hM
  obtain ⟨β, rfl⟩ := Zh aJ
  clear aJ
  refine bq _ _ ?_
  obtain ⟨aa, aO, bK⟩ := bs_ bG
  refine ZC (fun α au => Has α [(0, .iface 150 (pt_ U 3)), (1, i_ O), (2, i_ V), (7, i_ e), (9, i_ aa)] /\ af = au) (fun _ aS => ?_) (fun α au hM => ?_)
  ·refine wb_ (aV) (fun am => ?_) fun am => ?_
   ·have bL := Ze am aO
    refine g_' (q_ (i_ (((2 * e) + 1) + 1)) (q_ (i_ (((2 * e) + 1) + 1)) (Za ?_)))
    obtain rfl := oi_ bL
    exact aS _ _ ⟨ha_, rfl⟩
   have bM := ZK am aO
   refine Zf ?_
   obtain rfl := oi_ bM
   exact aS _ _ ⟨ha_, rfl⟩
  obtain ⟨aK, rfl⟩ := hM
  obtain ⟨β, rfl⟩ := Zh aK
  clear aK
  refine bn _ _ (sq_ fun br => sq_ fun bs => g_' (q_ (.iface 150 (pt_ U 3)) (q_ (i_ aa) (q_ (i_ e) ?_))))
  obtain ⟨aZ, bf, aX⟩ := bs_ bK
  have aY := (aE.frS ac ax)
  refine Zf4 122 96 ⟨U, 3, none⟩ #[i_ aa, i_ e] (Y) #[Y, i_ aa, i_ e] (by kernel_rfl) (by kernel_rfl) (aY.l_) (Zc5 ac.wf ag.sq bf) ?_
  rintro _ _ ⟨rfl, rfl⟩
  refine q_ (.bool (!aZ)) (Za (bs _ _ ?_))
  refine wb_ ((!aZ)) (fun an => ?_) fun an => ?_
  ·have bO := Ze an aX
   refine ZL (Zj (ZkH (by decide) (Zj (ZV ?_))))
   obtain rfl := oi_ bO
   obtain rfl := ZG ap
   exact aP _ _ ⟨ha_, (fs_ ab (fr_ ab) ac ir_), ag⟩
  have bP := ZK an aX
  refine Zf (br _ _ (sq_ fun bt => g_' (q_ (.iface 150 (pt_ U 3)) (q_ (i_ e) (q_ (i_ aa) ?_)))))
  obtain ⟨bT, bg, bQ⟩ := bs_ bP
  refine Zf4 123 96 ⟨U, 3, none⟩ #[i_ e, i_ aa] (Y) #[Y, i_ e, i_ aa] (by kernel_rfl) (by kernel_rfl) (aY.l_) (ZcW ac.wf ag bg) ?_
  rintro _ bV ⟨rfl, a2, bw⟩
  refine Za (bt _ _ (g_' (q_ (i_ aa) (q_ (i_ aa) (Za ?_)))))
  obtain rfl := oi_ bQ
  exact bh bx _ _ lt_ ⟨bT, aa, ap, ha_, (fs_ ab (fs_ ab (fr_ ab) ac ir_) a2 ir_), bw⟩
 obtain ⟨aG, a1, bv⟩ := hM
 obtain ⟨β, rfl⟩ := Zh aG
 clear aG
 refine bo _ _ (sq_ fun bu => g_' (q_ (i_ ae.1) (q_ (i_ O) (q_ (.bool (decide (ae.1 > O))) (q_ (.bool (decide (ae.1 > O))) (Za (bu _ _ ?_)))))))
 refine Zg ?_
 refine br_ [.bool (decide (ae.1 > O))] ?_
 obtain rfl := oi_ bN
 exact ⟨rfl, (fs_ ab (fr_ ab) a1 ir_), bv⟩
theorem Zf0 {H : AH} {O : Nat} {ab : Nat} {ap : Value} {aC : Fp} {Y : Value} {an : Fp} {ac : Nat} {au : List (Bool × List (Int × Int × Int) × List (Int × Int × Int))} {av : Int} {aw : Int} {aj : Int} {ak : Int} {e : List (Int × Int)} {ax : Int -> Option (Int × Int × Int)} {r : Int × Int × List (Int × Int)}
    (al : WF H) (a1 : Nd Zc 3 H ap au aC []) (aZ : Row H ab [ap, i_ av, i_ aw]) (V : Ow Zw 2 H Y e an) (a2 : Ms .i64 ZO H ac ax) (U : Row H O [pt_ ab 0, i_ aj, i_ ak, Y, .map (some ac)]) (aB : Dj [O] an) (aq : ZcC au av aw aj ak e ax = some r) :
    ACalls Try.prog 125 #[pt_ O 3] H fun v H' => ∃ (ay : Value), v = .iface 152 (.agg #[.int .u64 r.1, i_ r.2.1]) /\ FrS [O] H H' /\ Ow Zw 2 H' ay r.2.2 an /\ Row H' O [pt_ ab 0, i_ aj, i_ ak, ay, .map (some ac)] := by
 refine ab_ Try.func125 ?_
 unfold ZcC at aq
 refine sq_ fun aH => g_' (q_ (.nilIface) (Za (aH _ _ (sq_ fun aI => g_' (q_ (pt_ O 3) (q_ (pt_ O 3) (lr_ 96 3 (Y) U (V.sq.ln_ 96 ?_))))))))
 obtain ⟨aD, aR⟩ := Zb aq
 refine w_' (((e.length : Int) - 1)) (Zo aD) (q_ (i_ ((e.length : Int) - 1)) (Za (aI _ _ (sq_ fun aE => g_' (q_ (pt_ O 3) (q_ (pt_ O 3) (lr_ 96 3 (Y) U (q_ (i_ ((e.length : Int) - 1)) ?_))))))))
 obtain ⟨ag, aM⟩ := Zb aR
 refine V.sq.ix_ 96 ag.1 ag.2 (le_ 152 0 (.agg #[.int .u64 ((gt e ((e.length : Int) - 1)).1), i_ ((gt e ((e.length : Int) - 1)).2)]) V.sq ag.1 ag.2 ?_)
 refine rk_ al [.int .u64 0, i_ 0] fun aY aV ae ah aN => ?_
 obtain ⟨aW, aJ, af, aO⟩ := ra_ 152 0 ae.wf aN [.int .u64 ((gt e ((e.length : Int) - 1)).1), i_ ((gt e ((e.length : Int) - 1)).2)] [.int .u64 ((gt e ((e.length : Int) - 1)).1), i_ ((gt e ((e.length : Int) - 1)).2)]
 refine ek_ aJ (Za (aE _ _ (sq_ fun aF => g_' (q_ (pt_ O 3) (q_ (pt_ O 3) (q_ (pt_ O 3) ?_))))))
 have az := ((U.ext ae).frS af (ah.djn U.ltF))
 refine lr_ 96 3 (Y) az (q_ (i_ ((e.length : Int) - 1)) ?_)
 obtain ⟨ao, aP⟩ := Zb aM
 have aS := ((V.ext ae).fr af (ah.djn V.lt))
 obtain ⟨a6, aK, ar⟩ := Ow.head (P := Try.prog) aS (t := 96) (by kernel_rfl) (hi := (some (i_ ((e.length : Int) - 1)))) (r := ((e.length : Int) - 1).toNat) (Zcp _ (by have := ao; omega)) (by have := ao; omega)
 obtain ⟨aa, ai, ad, rfl⟩ := ar.form
 refine Zba (.slice aa ai ad) (by kernel_rfl) aK ?_
 refine q_ (pt_ O 3) ?_
 obtain ⟨aX, aL, am, aQ⟩ := rb_ 96 3 af.wf az (.slice aa ai ad) [pt_ ab 0, i_ aj, i_ ak, .slice aa ai ad, .map (some ac)]
 refine ek_ aL (Za (aF _ _ (sq_ fun aG => g_' ?_)))
 have aA := (ah.djn U.ltF)
 have aT := (aO.frS am (Dj.symm aA))
 refine lr_ 152 0 (.agg #[.int .u64 ((gt e ((e.length : Int) - 1)).1), i_ ((gt e ((e.length : Int) - 1)).2)]) aT (q_ (.iface 152 (.agg #[.int .u64 ((gt e ((e.length : Int) - 1)).1), i_ ((gt e ((e.length : Int) - 1)).2)])) (q_ (.iface 152 (.agg #[.int .u64 ((gt e ((e.length : Int) - 1)).1), i_ ((gt e ((e.length : Int) - 1)).2)])) (Za (aG _ _ ?_))))
 refine Zg ?_
 refine br_ [.iface 152 (.agg #[.int .u64 ((gt e ((e.length : Int) - 1)).1), i_ ((gt e ((e.length : Int) - 1)).2)])] ?_
 have aU := (ar.fr am aB)
 obtain rfl := oi_ aP
 exact ⟨(.slice aa ai ad), rfl, (fs_ al (fs_ al ((fr_ al).extR ae) af (ah.fresh (Nat.le_refl _))) am ir_), aU, aQ⟩
theorem ZfF {H : AH} {e : Nat} {ad : Nat} {aw : Value} {an : Fp} {U : Value} {O : Fp} {ae : Nat} {ao : List (Bool × List (Int × Int × Int) × List (Int × Int × Int))} {ap : Int} {aq : Int} {ag : Int} {ah : Int} {ar : List (Int × Int)} {au : Int -> Option (Int × Int × Int)} {r : Int × Int × List (Int × Int) × List (Int × Int)}
    (aa : WF H) (aJ : Nd Zc 3 H aw ao an []) (aI : Row H ad [aw, i_ ap, i_ aq]) (av : Ow Zw 2 H U ar O) (aK : Ms .i64 ZO H ae au) (ai : Row H e [pt_ ad 0, i_ ag, i_ ah, U, .map (some ae)]) (al : Dj O an) (aj : Dj O [ad]) (ak : Dj O [ae]) (ac : Dj O [e]) (ax : Zbz ao ap aq ag ah ar au = some r) :
    ACalls Try.prog 68 #[.iface 150 (pt_ e 3)] H fun v H' => ∃ (aA : Value), v = .iface 152 (.agg #[.int .u64 r.1, i_ r.2.1]) /\ FrS ([e] ++ O) H H' /\ Ow Zw 2 H' U r.2.2.1 O /\ Ow Zw 2 H' aA r.2.2.2 O /\ Row H' e [pt_ ad 0, i_ ag, i_ ah, aA, .map (some ae)] := by
 refine ab_ Try.func68 ?_
 unfold Zbz at ax
 refine sq_ fun aS => g_' (q_ (.nilIface) (Za (aS _ _ (sq_ fun aT => g_' (q_ (.iface 150 (pt_ e 3)) ?_)))))
 obtain ⟨ab, aL, aX⟩ := bs_ ax
 refine Zf4 121 96 ⟨e, 3, none⟩ #[] (U) #[U] (by kernel_rfl) (by kernel_rfl) (ai.l_) (Zd3 aa av.sq aL) ?_
 rintro _ _ ⟨rfl, rfl⟩
 obtain ⟨aH, aY⟩ := Zb aX
 refine w_' ((ab - 1)) (Zo aH) (q_ (i_ (ab - 1)) (Za (aT _ _ (sq_ fun aP => g_' (q_ (.iface 150 (pt_ e 3)) (q_ (i_ (ab - 1)) ?_))))))
 obtain ⟨bf, aM, aZ⟩ := bs_ aY
 refine Zf4 123 96 ⟨e, 3, none⟩ #[i_ 0, i_ (ab - 1)] (U) #[U, i_ 0, i_ (ab - 1)] (by kernel_rfl) (by kernel_rfl) (ai.l_) (ZcW aa av aM) ?_
 rintro _ bb ⟨rfl, V, aU⟩
 refine Za (aP _ _ (sq_ fun aQ => g_' (q_ (.iface 150 (pt_ e 3)) (q_ (i_ (ab - 1)) ?_))))
 have aB := (aJ.fr V al)
 have aC := (aI.frS V aj)
 have aD := (aK.frS V ak)
 have aE := (ai.frS V ac)
 obtain ⟨bg, aN, a1⟩ := bs_ aZ
 refine ck_ (Zfm V.wf aB aC aU aD aE ac aN) ?_
 rintro _ bc ⟨rfl, Y, ay⟩
 refine Za (aQ _ _ (sq_ fun aR => g_' (q_ (.iface 150 (pt_ e 3)) ?_)))
 have a6 := (aB.fr Y al)
 have a7 := (aC.frS Y aj)
 have a8 := (aD.frS Y ak)
 have a_ := (aE.frS Y ac)
 obtain ⟨af, aO, a2⟩ := bs_ a1
 refine ck_ (Zf0 Y.wf a6 a7 ay a8 a_ (Dj.symm ac) aO) ?_
 rintro _ bd ⟨be, rfl, am, az, aV⟩
 obtain ⟨aF, aW, aG, rfl⟩ := az.form
 refine q_ (.iface 152 (.agg #[.int .u64 af.1, i_ af.2.1])) (Za (aR _ _ ?_))
 refine Zg ?_
 refine br_ [.iface 152 (.agg #[.int .u64 af.1, i_ af.2.1])] ?_
 have ba := (ay.fr am (Dj.symm ac))
 obtain rfl := oi_ a2
 exact ⟨(.slice aF aW aG), rfl, (fs_ aa (fs_ aa (fs_ aa (fr_ aa) V (Inn.right ir_)) Y (Inn.right ir_)) am Inn.left), ba, az, aV⟩
theorem Zf1 {H : AH} {V : Nat} {al : Nat} {be : Value} {aO : Fp} {aS : Value} {af : Fp} {ai : Nat} {aC : List (Bool × List (Int × Int × Int) × List (Int × Int × Int))} {aD : Int} {aE : Int} {an : Int} {ao : Int} {a1 : List (Int × Int)} {O : Int -> Option (Int × Int × Int)} {r : Int × Int × Int × Int × Bool × List (Int × Int)}
    (ah : WF H) (bY : Nd Zc 3 H be aC aO []) (bX : Row H al [be, i_ aD, i_ aE]) (aj : Ow Zw 2 H aS a1 af) (bd : Ms .i64 ZO H ai O) (am : Row H V [pt_ al 0, i_ an, i_ ao, aS, .map (some ai)]) (bc : Dj af aO) (bb : Dj af [al]) (aK : Dj af [ai]) (bW : Dj af [V]) (ba : Dj [V] [ai]) (bV : Dj [V] aO) (bU : Dj [V] [al]) (bh : ZbN aC aD aE an ao a1 O = some r) :
    ACalls Try.prog 54 #[pt_ V 0] H fun v H' => ∃ (bw : Value), v = .tuple #[i_ r.1, .agg #[.int .u64 r.2.1, i_ r.2.2.1, i_ r.2.2.2.1], .bool r.2.2.2.2.1] /\ FrS ([V] ++ af) H H' /\ Ow Zw 2 H' bw r.2.2.2.2.2 af /\ Row H' V [pt_ al 0, i_ an, i_ ao, bw, .map (some ai)] := by
 refine ab_ Try.func54 ?_
 unfold ZbN at bh
 refine sq_ fun ch => g_' (q_ (i_ 0) ?_)
 refine rk_ ah [.int .u64 0, i_ 0, i_ 0] fun ax a2 U ap aB => ?_
 refine q_ (.bool false) (Za (ch _ _ (sq_ fun ca => ?_)))
 obtain ⟨bA, b7, br⟩ := bs_ bh
 refine ZC (fun α av => ∃ aW, bA = Sum.inr aW /\ ∃ (aY : Value), Has α [(3, pt_ ax 0)] /\ FrS ([V] ++ af) a2 av /\ Ow Zw 2 av aY aW af /\ Row av V [pt_ al 0, i_ an, i_ ao, aY, .map (some ai)]) (fun _ cd => ?_) (fun α av hM => ?_)
 ·refine Zk ?_
  obtain ⟨bo, b5⟩ := Zv.1 b7
  have cS := (aj.ext U)
  have cT := (am.ext U)
  refine ZJ (fun n α aw => ∃ (ar : List (Int × Int)), ∃ (aZ : Value), ZN (fun zz_ => Za4 aC aD aE an ao O zz_) n ar = some bA /\ Has α [(0, pt_ V 0), (3, pt_ ax 0)] /\ FrS ([V] ++ af) a2 aw /\ Ow Zw 2 aw aZ ar af /\ Row aw V [pt_ al 0, i_ an, i_ ao, aZ, .map (some ai)]) bo ⟨a1, (aS), b5, ha_, (fr_ U.wf), cS, cT⟩ ?_
  rintro bo α aw ⟨ar, aZ, bZ, bg, Y, az, aT⟩ c3 bj
  obtain ⟨bp, z39, rfl, au, ay⟩ := Zx bZ
  obtain ⟨β, rfl⟩ := Zh bg
  clear bg
  replace au : Za4 aC aD aE an ao O ar = some z39 := au
  unfold Za4 at au
  obtain ⟨a45, bq, a7, rfl⟩ := az.form
  refine sq_ fun ce => sq_ fun cf => g_' (q_ (pt_ V 0) (q_ (pt_ V 0) (q_ (pt_ V 3) (lr_ 96 3 (.slice a45 bq a7) aT (az.sq.ln_ 96 (q_ (.bool (decide ((ar.length : Int) > 0))) (Za (cf _ _ ?_))))))))
  refine wc_ ((ar.length : Int) > 0) (fun aQ => ?_) fun aQ => ?_
  ·have cG := Ze aQ au
   refine Zf (ce _ _ (Zk (sq_ fun cg => g_' (q_ (pt_ V 0) (q_ (pt_ V 0) (q_ (pt_ V 3) (q_ (.iface 150 (pt_ V 3)) ?_)))))))
   have cU := ((bY.ext U).fr Y (Dj.app bV bc))
   have cV := ((bX.ext U).frS Y (Dj.app bU bb))
   have bx := ((bd.ext U).frS Y (Dj.app ba aK))
   obtain ⟨e, b8, bs⟩ := bs_ cG
   refine ck_ (ZfF Y.wf cU cV az bx aT bc bb aK bW b8) ?_
   rintro _ cX ⟨c5, rfl, ab, c4, aA, ck⟩
   obtain ⟨a66, aV, aH, rfl⟩ := aA.form
   refine q_ (.agg #[.int .u64 e.1, i_ e.2.1]) ?_
   refine rk_ ab.wf [.int .u64 0, i_ 0] fun aG cY ac ak bt => ?_
   obtain ⟨bD, cx, aa, bu⟩ := ra_ 152 0 ac.wf bt [.int .u64 e.1, i_ e.2.1] [.int .u64 e.1, i_ e.2.1]
   refine ek_ cx (Za (cg _ _ (sq_ fun ci => ?_)))
   refine ZW [0, 1, 2, 3, 4, 5, 6, 7, 8] (by kernel_rfl) ?_
   refine e_' (pt_ V 0) (e_' (pt_ V 0) (e_' (pt_ V 4) ?_))
   have aq := (t_ (t_ U.n Y.n) ab.n)
   have bR := (ak.djn (am.ltF.le aq))
   have aF := ((ck.ext ac).frS aa bR)
   refine mr_ 94 4 (.map (some ai)) aF (e_' (pt_ aG 1) (mr_ 3 1 (i_ e.2.1) bu ?_))
   have bS := (ak.djn (bd.ltF.le aq))
   have cW := (((bx.frS ab (Dj.app ba aK)).ext ac).frS aa bS)
   refine m_' (.agg #[.int .u64 (((O e.2.1).getD ((0, 0, 0) : Int × Int × Int)).1), i_ (((O e.2.1).getD ((0, 0, 0) : Int × Int × Int)).2.1), i_ (((O e.2.1).getD ((0, 0, 0) : Int × Int × Int)).2.2)]) (ZcR Try.prog 94 (.map (some ai)) (i_ e.2.1) false bD) (cW.look ((0, 0, 0) : Int × Int × Int) (zv := .agg #[.int .u64 0, i_ 0, i_ 0]) rfl (by kernel_rfl) (by kernel_rfl) _ rfl) ?_
   refine Zmm aa.wf [.int .u64 0, i_ 0, i_ 0] (by kernel_rfl) fun a6 cZ ad ag cH => ?_
   obtain ⟨c0, cy, ae, aX⟩ := ra_ 101 0 ad.wf cH [.int .u64 (((O e.2.1).getD ((0, 0, 0) : Int × Int × Int)).1), i_ (((O e.2.1).getD ((0, 0, 0) : Int × Int × Int)).2.1), i_ (((O e.2.1).getD ((0, 0, 0) : Int × Int × Int)).2.2)] [.int .u64 (((O e.2.1).getD ((0, 0, 0) : Int × Int × Int)).1), i_ (((O e.2.1).getD ((0, 0, 0) : Int × Int × Int)).2.1), i_ (((O e.2.1).getD ((0, 0, 0) : Int × Int × Int)).2.2)]
   refine fk_ cy (ZS) ?_
   refine ZR ?_
   refine ci _ _ (sq_ fun bk => g_' (q_ (pt_ a6 2) (lr_ 3 2 (i_ (((O e.2.1).getD ((0, 0, 0) : Int × Int × Int)).2.2)) aX ?_)))
   refine sb_ ((((O e.2.1).getD ((0, 0, 0) : Int × Int × Int)).2.2) = 0) (fun aR => ?_) fun aR => ?_
   ·have bv := Ze aR bs
    refine q_ (.bool true) (q_ (pt_ a6 0) (lr_ 27 0 (.int .u64 (((O e.2.1).getD ((0, 0, 0) : Int × Int × Int)).1)) aX (q_ (pt_ aG 0) ?_)))
    have bT := (ag.djn (bt.ltF.le aa.n))
    have bz := ((bu.ext ad).frS ae bT)
    refine lr_ 27 0 (.int .u64 e.1) bz (q_ (.bool (decide ((((O e.2.1).getD ((0, 0, 0) : Int × Int × Int)).1) = e.1))) (q_ (.bool (decide ((((O e.2.1).getD ((0, 0, 0) : Int × Int × Int)).1) = e.1))) (Za (bk _ _ ?_))))
    refine wc_ ((((O e.2.1).getD ((0, 0, 0) : Int × Int × Int)).1) = e.1) (fun aP => ?_) fun aP => ?_
    ·have cz := Ze aP bv
     refine sq_ fun b_ => ?_
     refine ZW [0, 1, 2, 3, 4, 5] (by kernel_rfl) ?_
     refine e_' (pt_ aG 1) (mr_ 3 1 (i_ e.2.1) bz (mr_ 101 0 (.agg #[.int .u64 (((O e.2.1).getD ((0, 0, 0) : Int × Int × Int)).1), i_ (((O e.2.1).getD ((0, 0, 0) : Int × Int × Int)).2.1), i_ (((O e.2.1).getD ((0, 0, 0) : Int × Int × Int)).2.2)]) aX (e_' (i_ e.2.1) ?_)))
     have aI := (ap.djn aj.lt)
     have aJ := (ap.djn am.ltF)
     have cm := (t_ Y.n ab.n)
     have bG := (ak.djn (aB.ltF.le cm))
     have cn := (t_ (t_ (t_ Y.n ab.n) ac.n) aa.n)
     have bH := (ag.djn (aB.ltF.le cn))
     have cI := ((((((aB.frS Y (Dj.app (Dj.symm aJ) (Dj.symm aI))).frS ab (Dj.app (Dj.symm aJ) (Dj.symm aI))).ext ac).frS aa bG).ext ad).frS ae bH)
     obtain ⟨bB, cv, aL, cA⟩ := ra_ 101 0 ae.wf cI [.int .u64 (((O e.2.1).getD ((0, 0, 0) : Int × Int × Int)).1), i_ (((O e.2.1).getD ((0, 0, 0) : Int × Int × Int)).2.1), i_ (((O e.2.1).getD ((0, 0, 0) : Int × Int × Int)).2.2)] [.int .u64 (((O e.2.1).getD ((0, 0, 0) : Int × Int × Int)).1), i_ (((O e.2.1).getD ((0, 0, 0) : Int × Int × Int)).2.1), i_ (((O e.2.1).getD ((0, 0, 0) : Int × Int × Int)).2.2)]
     refine fk_ cv (ZS) (e_' (.bool true) ?_)
     refine ZR ?_
     refine b_ _ _ ?_
     refine Zg (Z5 (Zn (Z5 (Zn (Zn ?_)))))
     obtain ⟨c6, bi, b9⟩ := map_some cz
     subst b9
     obtain rfl := ZG ay
     have b6 := elim_inl br
     rw [b6] at bi
     refine Zan (vs := [i_ e.2.1, .agg #[.int .u64 (((O e.2.1).getD ((0, 0, 0) : Int × Int × Int)).1), i_ (((O e.2.1).getD ((0, 0, 0) : Int × Int × Int)).2.1), i_ (((O e.2.1).getD ((0, 0, 0) : Int × Int × Int)).2.2)], .bool true]) (ZcG (by kernel_rfl) (ZQ (Eq.trans (b := aL_ 101 (pt_ ax 0) bB) (by kernel_rfl) (cA.l_)) (rt_ (rfl)))) ?_
     have aU := (t_ (t_ (t_ (t_ U.n Y.n) ab.n) ac.n) aa.n)
     have bI := (ak.djn (aj.lt.le aq))
     have bJ := (ag.djn (aj.lt.le aU))
     have cJ := (((((aA.ext ac).fr aa bI).ext ad).fr ae bJ).fr aL aI)
     have bK := (ag.djn (am.ltF.le aU))
     have cK := (((aF.ext ad).frS ae bK).frS aL aJ)
     obtain rfl := oi_ bi
     exact ⟨(.slice a66 aV aH), rfl, (fs_ ah (fs_ ah ((fs_ ah ((fs_ ah (fs_ ah ((fr_ ah).extR U) Y ir_) ab ir_).extR ac) aa (ak.fresh aq)).extR ad) ae (ag.fresh aU)) aL (ap.fresh (Nat.le_refl _))), cJ, cK⟩
    have cB := Zi aP bv
    refine Zf ?_
    have co := (t_ Y.n ab.n)
    have cp := (t_ (t_ (t_ Y.n ab.n) ac.n) aa.n)
    have bL := (ak.djn (aj.lt.le aq))
    have bm := (t_ (t_ (t_ (t_ U.n Y.n) ab.n) ac.n) aa.n)
    have bM := (ag.djn (aj.lt.le bm))
    have cL := ((((aA.ext ac).fr aa bL).ext ad).fr ae bM)
    have bN := (ag.djn (am.ltF.le bm))
    have cM := ((aF.ext ad).frS ae bN)
    obtain rfl := oi_ cB
    exact bj bp _ _ lt_ ⟨e.2.2.2, (.slice a66 aV aH), ay, ha_, (fs_ U.wf ((fs_ U.wf ((fs_ U.wf (fs_ U.wf (fr_ U.wf) Y ir_) ab ir_).extR ac) aa (ak.fresh co)).extR ad) ae (ag.fresh cp)), cL, cM⟩
   have cC := Zi aR bs
   refine q_ (.bool false) (n_' (n_' (n_' (n_' (n_' (q_ (.bool false) (Za (bk _ _ ?_))))))))
   refine wb_ false (fun h => by cases h) fun _ => ?_
   refine Zf ?_
   have cq := (t_ Y.n ab.n)
   have cr := (t_ (t_ (t_ Y.n ab.n) ac.n) aa.n)
   have bO := (ak.djn (aj.lt.le aq))
   have bn := (t_ (t_ (t_ (t_ U.n Y.n) ab.n) ac.n) aa.n)
   have bP := (ag.djn (aj.lt.le bn))
   have cN := ((((aA.ext ac).fr aa bO).ext ad).fr ae bP)
   have bQ := (ag.djn (am.ltF.le bn))
   have cO := ((aF.ext ad).frS ae bQ)
   obtain rfl := oi_ cC
   exact bj bp _ _ lt_ ⟨e.2.2.2, (.slice a66 aV aH), ay, ha_, (fs_ U.wf ((fs_ U.wf ((fs_ U.wf (fs_ U.wf (fr_ U.wf) Y ir_) ab ir_).extR ac) aa (ak.fresh cq)).extR ad) ae (ag.fresh cr)), cN, cO⟩
  have cD := Zi aQ au
  refine ZL (Zj (Zj (ZV ?_)))
  obtain rfl := oi_ cD
  obtain rfl := ZG ay
  exact cd _ _ ⟨_, rfl, (.slice a45 bq a7), ha_, (fs_ U.wf (fr_ U.wf) Y ir_), az, aT⟩
 obtain ⟨aW, rfl, aY, bf, aN, bl, cj⟩ := hM
 have cE := elim_inr br
 obtain ⟨β, rfl⟩ := Zh bf
 clear bf
 obtain ⟨bE, cu, bF, rfl⟩ := bl.form
 refine ca _ _ (sq_ fun cc => g_' (q_ (.agg #[.int .u64 0, i_ 0, i_ 0]) (q_ (i_ 0) ?_)))
 have a8 := (ap.djn aj.lt)
 have a_ := (ap.djn am.ltF)
 have cP := (aB.frS aN (Dj.app (Dj.symm a_) (Dj.symm a8)))
 obtain ⟨bC, cw, aM, cF⟩ := ra_ 101 0 aN.wf cP [.int .u64 0, i_ 0, i_ 0] [.int .u64 0, i_ 0, i_ 0]
 refine ek_ cw (q_ (.bool false) (Za (cc _ _ ?_)))
 refine Zg ?_
 refine Zan (vs := [i_ 0, .agg #[.int .u64 0, i_ 0, i_ 0], .bool false]) (ZcG (by kernel_rfl) (ZQ (Eq.trans (b := aL_ 101 (pt_ ax 0) bC) (by kernel_rfl) (cF.l_)) (rt_ (rfl)))) ?_
 have cQ := (bl.fr aM a8)
 have cR := (cj.frS aM a_)
 obtain rfl := oi_ cE
 exact ⟨(.slice bE cu bF), rfl, (fs_ ah (fs_ ah ((fr_ ah).extR U) aN ir_) aM (ap.fresh (Nat.le_refl _))), cQ, cR⟩
theorem Zfd {H : AH} {Y : Nat} {aw : Nat} {bH : Value} {aP : Fp} {aR : Value} {am : Fp} {ai : Nat} {aY : List (Bool × List (Int × Int × Int) × List (Int × Int × Int))} {aZ : Int} {a1 : Int} {ay : Int} {av : Int} {bm : List (Int × Int)} {bn : Int -> Option (Int × Int × Int)} {aF : Int} {af : Int} {hops : Int} {bo : Int} {r : (Int -> Option (Int × Int × Int)) × List (Int × Int)}
    (az : WF H) (aD : Nd Zc 3 H bH aY aP []) (aC : Row H aw [bH, i_ aZ, i_ a1]) (aE : Ow Zw 2 H aR bm am) (ar : Ms .i64 ZO H ai bn) (ap : Row H Y [pt_ aw 0, i_ ay, i_ av, aR, .map (some ai)]) (bA : Dj [ai] [Y]) (bB : Dj [ai] am) (a8 : Dj [ai] aP) (a7 : Dj [ai] [aw]) (c7 : Dj am [Y]) (bF : Dj am aP) (bD : Dj [Y] aP) (bE : Dj am [aw]) (bC : Dj [Y] [aw]) (c8 : Dj am [ai]) (be : Zbq aY aZ a1 ay av bm bn aF af hops bo = some r) :
    ACalls Try.prog 55 #[pt_ Y 0, i_ aF, .agg #[.int .u64 af, i_ hops, i_ bo]] H fun v H' => ∃ (cc : Value) (f6 : Fp), v = .tuple #[] /\ FrS ([Y] ++ ([ai] ++ am)) H H' /\ Ms .i64 ZO H' ai r.1 /\ Ow Zw 2 H' cc r.2 f6 /\ Row H' Y [pt_ aw 0, i_ ay, i_ av, cc, .map (some ai)] /\ Inn am H f6 := by
 refine ab_ Try.func55 ?_
 unfold Zbq at be
 refine sq_ fun dq => g_' ?_
 refine rl_ az [.int .u64 af, i_ hops, i_ bo] fun aB eK aj aq bj => ?_
 refine Za (dq _ _ (sq_ fun dx => g_' (q_ (pt_ aB 2) ?_)))
 obtain ⟨eO, d4, ag, ca⟩ := rb_ 3 2 aj.wf bj (i_ 1) [.int .u64 af, i_ hops, i_ 1]
 refine ek_ d4 (Za (dx _ _ (sq_ fun dy => ?_)))
 refine ZW [0, 1, 2, 3, 4, 5, 6] (by kernel_rfl) ?_
 refine e_' (pt_ Y 0) (e_' (pt_ Y 0) (e_' (pt_ Y 4) ?_))
 have cg := ((ap.ext aj).frS ag (aq.djn ap.ltF))
 refine mr_ 94 4 (.map (some ai)) cg (e_' (i_ aF) (mr_ 101 0 (.agg #[.int .u64 af, i_ hops, i_ 1]) ca ?_))
 have eD := ((ar.ext aj).frS ag (aq.djn ar.ltF))
 obtain ⟨eP, d5, c_, bS⟩ := eD.put (P := Try.prog) ag.wf (t := 94) (zv := .agg #[.int .u64 0, i_ 0, i_ 0]) (val := .agg #[.int .u64 af, i_ hops, i_ 1]) (by kernel_rfl) aF (af, hops, 1) rfl
 have ah := c_.frS (W := [ai]) (List.mem_singleton.2 rfl)
 refine fk_ d5 (ZS) ?_
 refine ZR ?_
 refine dy _ _ (sq_ fun dz => sq_ fun dA => ?_)
 refine ZW [0, 1, 2, 3, 4, 5, 6] (by kernel_rfl) ?_
 refine e_' (pt_ aB 1) ?_
 have bz := (aq.djn ar.ltF)
 have ch := (ca.frS ah (Dj.symm bz))
 refine mr_ 3 1 (i_ hops) ch (e_' (pt_ Y 0) (e_' (pt_ Y 0) (e_' (pt_ Y 2) ?_)))
 have a6 := (cg.frS ah bA)
 refine mr_ 3 2 (i_ av) a6 (e_' (.bool (decide (hops ≥ av))) ?_)
 refine ZR ?_
 refine dA _ _ ?_
 refine wc_ (hops ≥ av) (fun bc => ?_) fun bc => ?_
 ·have em := Ze bc be
  refine Zg (Zn ?_)
  refine Zan (vs := []) (rfl) ?_
  have eE := (((aE.ext aj).fr ag (aq.djn aE.lt)).fr ah bB)
  obtain rfl := oi_ em
  exact ⟨(aR), am, rfl, (fs_ az (fs_ az ((fr_ az).extR aj) ag (aq.fresh (Nat.le_refl _))) ah (Inn.right Inn.left)), bS, eE, a6, ir_⟩
 have eo := Zi bc be
 refine Zf (dz _ _ (sq_ fun dB => g_' (q_ (pt_ Y 0) (q_ (pt_ Y 0) (q_ (pt_ Y 0) (lr_ 29 0 (pt_ aw 0) a6 (q_ (i_ aF) ?_)))))))
 have ci := (((aD.ext aj).fr ag (aq.djn aD.lt)).fr ah a8)
 have cj := (((aC.ext aj).frS ag (aq.djn aC.ltF)).frS ah a7)
 obtain ⟨O, dm, ep⟩ := bs_ eo
 refine ck_ (ZdO ah.wf ci cj dm) ?_
 rintro eT aN ⟨_, f46, rfl, V, bg, bf⟩
 obtain ⟨bs, bV, bw, rfl⟩ := bg.form
 refine bg.sq.ln_ 69 (q_ (i_ 0) (Za (dB _ _ ?_)))
 obtain ⟨bi, di, eq⟩ := bs_ ep
 refine ZC (fun α aG => ∃ (bk : Value) (aO : Fp), Has α [] /\ FrS ([Y] ++ ([ai] ++ am)) aN aG /\ Ms .i64 ZO aG ai bi.1 /\ Ow Zw 2 aG bk bi.2 aO /\ Row aG Y [pt_ aw 0, i_ ay, i_ av, bk, .map (some ai)] /\ Inn am aN aO) (fun _ dC => ?_) (fun α aG hM => ?_)
 ·refine Zk ?_
  obtain ⟨bW, dh⟩ := Zv.1 di
  have eF := ((((aE.ext aj).fr ag (aq.djn aE.lt)).fr ah bB).fr V dn_)
  have eG := (bS.frS V dn_)
  have eH := (a6.frS V dn_)
  refine ZJ (fun n α aH => ∃ (aM : List (Int × Int)), ∃ (U : Int -> Option (Int × Int × Int)), ∃ (e : Int), ∃ (bl : Value), ∃ (aJ : Fp), ZN (fun zz_ => ZaN aY aZ a1 ay av af hops O zz_.1 zz_.2.1 zz_.2.2) n (aM, U, e) = some bi /\ Has α [(0, pt_ Y 0), (5, pt_ aB 0), (30, .slice bs bV bw), (31, i_ (O.length : Int)), (32, i_ e)] /\ FrS ([Y] ++ ([ai] ++ am)) aN aH /\ Ow Zw 2 aH bl aM aJ /\ Ms .i64 ZO aH ai U /\ Row aH Y [pt_ aw 0, i_ ay, i_ av, bl, .map (some ai)] /\ Inn am aN aJ) bW ⟨bm, (fun x => if x = aF then some (af, hops, 1) else bn x), 0, (aR), am, dh, ha_, (fr_ V.wf), eF, eG, eH, ir_⟩ ?_
  rintro bW α aH ⟨aM, U, e, bl, aJ, dg, bK, ae, au, bQ, bR, aA⟩ eR bN
  obtain ⟨bX, eI, rfl, aL, bd⟩ := Zx dg
  obtain ⟨β, rfl⟩ := Zh bK
  clear bK
  replace aL : ZaN aY aZ a1 ay av af hops O aM U e = some eI := aL
  unfold ZaN at aL
  obtain ⟨bt, bY, bx, rfl⟩ := au.form
  refine sq_ fun dD => g_' (q_ (.bool (decide (e < (O.length : Int)))) (Za (dD _ _ (sq_ fun dE => ?_))))
  refine wc_ (e < (O.length : Int)) (fun aK => ?_) fun aK => ?_
  ·have d6 := Ze aK aL
   refine Zf (dE _ _ (sq_ fun bM => Zk (sq_ fun dr => g_' ?_)))
   obtain ⟨bG, d7⟩ := Zb d6
   have bh := (t_ (t_ aj.n ag.n) ah.n)
   have cu := (bf.djn (aE.lt.le bh))
   have cv := (bf.djn (ar.ltF.le bh))
   have cw := (bf.djn (ap.ltF.le bh))
   have cd := (bg.fr ae (Dj.app (Dj.symm cw) (Dj.app (Dj.symm cv) (Dj.symm cu))))
   refine cd.sq.ix_ 69 bG aK (le_ 71 0 (.agg #[i_ ((gt O e).1), .int .u64 ((gt O e).2.1), i_ ((gt O e).2.2)]) cd.sq bG aK ?_)
   refine rk_ ae.wf [i_ 0, .int .u64 0, i_ 0] fun aI eJ ab ax aX => ?_
   obtain ⟨cm, d1, aa, b5⟩ := ra_ 71 0 ab.wf aX [i_ ((gt O e).1), .int .u64 ((gt O e).2.1), i_ ((gt O e).2.2)] [i_ ((gt O e).1), .int .u64 ((gt O e).2.1), i_ ((gt O e).2.2)]
   refine ek_ d1 (Za (dr _ _ (sq_ fun dt => ?_)))
   refine ZW [0, 1, 2, 3, 4, 5, 6, 7, 8, 9, 10, 11, 12] (by kernel_rfl) ?_
   refine e_' (pt_ Y 0) (e_' (pt_ Y 0) (e_' (pt_ Y 4) ?_))
   have aT := (t_ (t_ (t_ (t_ aj.n ag.n) ah.n) V.n) ae.n)
   have cx := (ax.djn (ap.ltF.le aT))
   have a2 := ((bR.ext ab).frS aa cx)
   refine mr_ 94 4 (.map (some ai)) a2 (e_' (pt_ aI 0) (mr_ 3 0 (i_ ((gt O e).1)) b5 ?_))
   have cy := (ax.djn (ar.ltF.le aT))
   have bp := ((bQ.ext ab).frS aa cy)
   refine m_' (.tuple #[.agg #[.int .u64 (((U ((gt O e).1)).getD ((0, 0, 0) : Int × Int × Int)).1), i_ (((U ((gt O e).1)).getD ((0, 0, 0) : Int × Int × Int)).2.1), i_ (((U ((gt O e).1)).getD ((0, 0, 0) : Int × Int × Int)).2.2)], .bool ((U ((gt O e).1)).isSome)]) (ZcR Try.prog 94 (.map (some ai)) (i_ ((gt O e).1)) true cm) (bp.look2 ((0, 0, 0) : Int × Int × Int) (zv := .agg #[.int .u64 0, i_ 0, i_ 0]) rfl (by kernel_rfl) (by kernel_rfl) _ rfl) (e_' (.tuple #[.agg #[.int .u64 (((U ((gt O e).1)).getD ((0, 0, 0) : Int × Int × Int)).1), i_ (((U ((gt O e).1)).getD ((0, 0, 0) : Int × Int × Int)).2.1), i_ (((U ((gt O e).1)).getD ((0, 0, 0) : Int × Int × Int)).2.2)], .bool ((U ((gt O e).1)).isSome)]) (e_' (.agg #[.int .u64 (((U ((gt O e).1)).getD ((0, 0, 0) : Int × Int × Int)).1), i_ (((U ((gt O e).1)).getD ((0, 0, 0) : Int × Int × Int)).2.1), i_ (((U ((gt O e).1)).getD ((0, 0, 0) : Int × Int × Int)).2.2)]) (e_' (.bool ((U ((gt O e).1)).isSome)) ?_)))
   refine Zmm aa.wf [.int .u64 0, i_ 0, i_ 0] (by kernel_rfl) fun bu eL ad ao b6 => ?_
   obtain ⟨eM, d2, ac, d8⟩ := ra_ 101 0 ad.wf b6 [.int .u64 (((U ((gt O e).1)).getD ((0, 0, 0) : Int × Int × Int)).1), i_ (((U ((gt O e).1)).getD ((0, 0, 0) : Int × Int × Int)).2.1), i_ (((U ((gt O e).1)).getD ((0, 0, 0) : Int × Int × Int)).2.2)] [.int .u64 (((U ((gt O e).1)).getD ((0, 0, 0) : Int × Int × Int)).1), i_ (((U ((gt O e).1)).getD ((0, 0, 0) : Int × Int × Int)).2.1), i_ (((U ((gt O e).1)).getD ((0, 0, 0) : Int × Int × Int)).2.2)]
   refine fk_ d2 (ZS) (e_' (.bool ((U ((gt O e).1)).isSome)) ?_)
   refine ZR ?_
   refine dt _ _ (sq_ fun du => g_' (q_ (pt_ aB 0) ?_))
   have cz := (aq.djn aE.lt)
   have cA := (aq.djn ap.ltF)
   have dJ := (t_ (t_ (t_ ag.n ah.n) V.n) ae.n)
   have cB := (ax.djn (bj.ltF.le dJ))
   have dK := (t_ (t_ (t_ (t_ (t_ ag.n ah.n) V.n) ae.n) ab.n) aa.n)
   have cC := (ao.djn (bj.ltF.le dK))
   have ce := ((((((ch.frS V dn_).frS ae (Dj.app (Dj.symm cA) (Dj.app (Dj.symm bz) (Dj.symm cz)))).ext ab).frS aa cB).ext ad).frS ac cC)
   refine lr_ 27 0 (.int .u64 af) ce (q_ (pt_ aI 1) ?_)
   have cD := (ao.djn (aX.ltF.le aa.n))
   have bq := ((b5.ext ad).frS ac cD)
   refine lr_ 27 1 (.int .u64 ((gt O e).2.1)) bq ?_
   obtain ⟨dc, d9⟩ := Zb d7
   refine s_w ((af + ((gt O e).2.1))) (k := .u64) (x := (af + ((gt O e).2.1))) (by kernel_rfl) (Zdr dc) ?_
   refine q_ (pt_ aB 1) (lr_ 3 1 (i_ hops) ce ?_)
   obtain ⟨dd, d_⟩ := Zb d9
   refine w_' ((hops + 1)) (Zo dd) (q_ (.agg #[.int .u64 (af + ((gt O e).2.1)), i_ (hops + 1), i_ 0]) ?_)
   refine rk_ ac.wf [.int .u64 0, i_ 0, i_ 0] fun bv eN ak an ea => ?_
   obtain ⟨cn, d3, al, b7⟩ := ra_ 101 0 ak.wf ea [.int .u64 (af + ((gt O e).2.1)), i_ (hops + 1), i_ 0] [.int .u64 (af + ((gt O e).2.1)), i_ (hops + 1), i_ 0]
   refine ek_ d3 (Za (du _ _ (sq_ fun dv => sq_ fun dw => ?_)))
   obtain ⟨bZ, bL, b8⟩ := bs_ d_
   refine ZC (fun α br => Has α [(0, pt_ Y 0), (5, pt_ aB 0), (7, pt_ aI 0), (10, pt_ bv 0), (30, .slice bs bV bw), (31, i_ (O.length : Int)), (32, i_ e), (76, .bool bZ)] /\ cn = br) (fun _ aS => ?_) (fun α br hM => ?_)
   ·refine ZW [0, 1, 2, 3, 4, 5, 6, 7, 8, 9, 10, 11, 12, 13, 14, 15, 16, 17, 18, 19, 20, 21] (by kernel_rfl) ?_
    refine e_' (pt_ aI 0) ?_
    have dL := (t_ (t_ aa.n ad.n) ac.n)
    have cE := (an.djn (aX.ltF.le dL))
    have er := ((bq.ext ak).frS al cE)
    refine mr_ 3 0 (i_ ((gt O e).1)) er (e_' (pt_ Y 0) (e_' (pt_ Y 0) (e_' (pt_ Y 1) ?_)))
    have dM := (t_ (t_ (t_ (t_ (t_ (t_ aj.n ag.n) ah.n) V.n) ae.n) ab.n) aa.n)
    have cF := (ao.djn (ap.ltF.le dM))
    have dN := (t_ (t_ (t_ (t_ (t_ (t_ (t_ (t_ aj.n ag.n) ah.n) V.n) ae.n) ab.n) aa.n) ad.n) ac.n)
    have cG := (an.djn (ap.ltF.le dN))
    have es := ((((a2.ext ad).frS ac cF).ext ak).frS al cG)
    refine mr_ 3 1 (i_ ay) es ?_
    refine db_ (((gt O e).1) = ay) (fun a_ => ?_) fun a_ => ?_
    ·have eb := Ze a_ bL
     refine e_' (.bool true) (j_' (j_' (j_' (e_' (.bool true) (e_' (.bool true) (j_' (j_' (j_' (j_' (j_' (j_' (j_' (j_' (e_' (.bool true) ?_))))))))))))))
     refine ZR ?_
     obtain rfl := oi_ eb
     exact aS _ _ ⟨ha_, rfl⟩
    have b9 := Zi a_ bL
    refine e_' (.bool false) (e_' (pt_ bu 2) ?_)
    have cH := (an.djn (b6.ltF.le ac.n))
    have cf := ((d8.ext ak).frS al cH)
    refine mr_ 3 2 (i_ (((U ((gt O e).1)).getD ((0, 0, 0) : Int × Int × Int)).2.2)) cf ?_
    refine db_ ((((U ((gt O e).1)).getD ((0, 0, 0) : Int × Int × Int)).2.2) > 0) (fun ba => ?_) fun ba => ?_
    ·have ec := Ze ba b9
     refine e_' (.bool true) (e_' (.bool true) (j_' (j_' (j_' (j_' (j_' (j_' (j_' (j_' (e_' (.bool true) ?_))))))))))
     refine ZR ?_
     obtain rfl := oi_ ec
     exact aS _ _ ⟨ha_, rfl⟩
    have b_ := Zi ba b9
    refine e_' (.bool false) (e_' (.bool false) (e_' (.bool ((U ((gt O e).1)).isSome)) (e_' (.bool ((U ((gt O e).1)).isSome)) ?_)))
    by_cases aQ : (U ((gt O e).1)).isSome = true
    ·have ed := Ze aQ b_
     rw [aQ]
     refine e_' (pt_ bu 0) (mr_ 27 0 (.int .u64 (((U ((gt O e).1)).getD ((0, 0, 0) : Int × Int × Int)).1)) cf (e_' (pt_ bv 0) (mr_ 27 0 (.int .u64 (af + ((gt O e).2.1))) b7 (e_' (.bool (decide ((((U ((gt O e).1)).getD ((0, 0, 0) : Int × Int × Int)).1) ≤ (af + ((gt O e).2.1))))) (e_' (.bool (decide ((((U ((gt O e).1)).getD ((0, 0, 0) : Int × Int × Int)).1) ≤ (af + ((gt O e).2.1))))) (e_' (.bool (decide ((((U ((gt O e).1)).getD ((0, 0, 0) : Int × Int × Int)).1) ≤ (af + ((gt O e).2.1))))) ?_))))))
     refine ZR ?_
     obtain rfl := oi_ ed
     exact aS _ _ ⟨ha_, rfl⟩
    have ee := Zi aQ b_
    rw [nb aQ]
    refine j_' (j_' (j_' (j_' (j_' (e_' (.bool false) (e_' (.bool false) ?_))))))
    refine ZR ?_
    obtain rfl := oi_ ee
    exact aS _ _ ⟨ha_, rfl⟩
   obtain ⟨bI, rfl⟩ := hM
   obtain ⟨β, rfl⟩ := Zh bI
   clear bI
   refine dw _ _ ?_
   refine wb_ (bZ) (fun bb => ?_) fun bb => ?_
   ·have ef := Ze bb b8
    refine ZL (Zj (ZV ?_))
    refine bM _ _ (g_' ?_)
    obtain ⟨de, eg⟩ := Zb ef
    refine w_' ((e + 1)) (Zo (by have := de; omega)) (q_ (i_ (e + 1)) (Za ?_))
    have dO := (t_ (t_ ae.n ab.n) aa.n)
    have dP := (t_ (t_ (t_ (t_ ae.n ab.n) aa.n) ad.n) ac.n)
    have dQ := (t_ ab.n aa.n)
    have cI := (ao.djn (au.lt.le dQ))
    have dR := (t_ (t_ (t_ ab.n aa.n) ad.n) ac.n)
    have cJ := (an.djn (au.lt.le dR))
    have et := ((((((au.ext ab).fr aa (ax.djn au.lt)).ext ad).fr ac cI).ext ak).fr al cJ)
    have bT := (t_ (t_ (t_ (t_ (t_ (t_ aj.n ag.n) ah.n) V.n) ae.n) ab.n) aa.n)
    have cK := (ao.djn (ar.ltF.le bT))
    have bU := (t_ (t_ (t_ (t_ (t_ (t_ (t_ (t_ aj.n ag.n) ah.n) V.n) ae.n) ab.n) aa.n) ad.n) ac.n)
    have cL := (an.djn (ar.ltF.le bU))
    have eu := ((((bp.ext ad).frS ac cK).ext ak).frS al cL)
    have cM := (ao.djn (ap.ltF.le bT))
    have cN := (an.djn (ap.ltF.le bU))
    have ew := ((((a2.ext ad).frS ac cM).ext ak).frS al cN)
    obtain rfl := oi_ eg
    exact bN bX _ _ lt_ ⟨aM, U, (e + 1), (.slice bt bY bx), aJ, bd, ha_, (fs_ V.wf ((fs_ V.wf ((fs_ V.wf ((fs_ V.wf (fr_ V.wf) ae ir_).extR ab) aa (ax.fresh ae.n)).extR ad) ac (ao.fresh dO)).extR ak) al (an.fresh dP)), et, eu, ew, (Inn.trans ir_ (Nat.le_refl _) aA)⟩
   have eh := ZK bb b8
   refine Zf (dv _ _ (g_' (q_ (pt_ Y 0) (q_ (pt_ aI 0) ?_))))
   have dS := (t_ (t_ aa.n ad.n) ac.n)
   have cO := (an.djn (aX.ltF.le dS))
   have ex := ((bq.ext ak).frS al cO)
   refine lr_ 3 0 (i_ ((gt O e).1)) ex (lr_ 101 0 (.agg #[.int .u64 (af + ((gt O e).2.1)), i_ (hops + 1), i_ 0]) b7 ?_)
   have cP := (ax.djn (aD.lt.le aT))
   have aU := (t_ (t_ (t_ (t_ (t_ (t_ aj.n ag.n) ah.n) V.n) ae.n) ab.n) aa.n)
   have cQ := (ao.djn (aD.lt.le aU))
   have aV := (t_ (t_ (t_ (t_ (t_ (t_ (t_ (t_ aj.n ag.n) ah.n) V.n) ae.n) ab.n) aa.n) ad.n) ac.n)
   have cR := (an.djn (aD.lt.le aV))
   have ey := ((((((((ci.fr V dn_).fr ae (Dj.app bD (Dj.app a8 bF))).ext ab).fr aa cP).ext ad).fr ac cQ).ext ak).fr al cR)
   have cS := (ax.djn (aC.ltF.le aT))
   have cT := (ao.djn (aC.ltF.le aU))
   have cU := (an.djn (aC.ltF.le aV))
   have ez := ((((((((cj.frS V dn_).frS ae (Dj.app bC (Dj.app a7 bE))).ext ab).frS aa cS).ext ad).frS ac cT).ext ak).frS al cU)
   have dT := (t_ ab.n aa.n)
   have cV := (ao.djn (au.lt.le dT))
   have dU := (t_ (t_ (t_ ab.n aa.n) ad.n) ac.n)
   have cW := (an.djn (au.lt.le dU))
   have eA := ((((((au.ext ab).fr aa (ax.djn au.lt)).ext ad).fr ac cV).ext ak).fr al cW)
   have cX := (ao.djn (ar.ltF.le aU))
   have cY := (an.djn (ar.ltF.le aV))
   have eB := ((((bp.ext ad).frS ac cX).ext ak).frS al cY)
   have cZ := (ao.djn (ap.ltF.le aU))
   have c0 := (an.djn (ap.ltF.le aV))
   have eC := ((((a2.ext ad).frS ac cZ).ext ak).frS al c0)
   have aW := (t_ (t_ (t_ aj.n ag.n) ah.n) V.n)
   have c3 := (aA.dj c8 (ar.ltF.le aW))
   have c4 := (aA.dj c7 (ap.ltF.le aW))
   have c5 := (aA.dj bF (aD.lt.le aW))
   have c6 := (aA.dj bE (aC.ltF.le aW))
   obtain ⟨ck, dk, ej⟩ := bs_ eh
   refine ck_ (Zen al.wf ey ez eA eB eC a8 a7 (Dj.symm c3) bA c4 c5 bD c6 bC dk) ?_
   rintro _ eQ ⟨eS, db, rfl, c9, dF, bO, dG, dn⟩
   obtain ⟨co, dV, cq, rfl⟩ := bO.form
   refine Za (bM _ _ (g_' ?_))
   obtain ⟨df, ek⟩ := Zb ej
   refine w_' ((e + 1)) (Zo (by have := df; omega)) (q_ (i_ (e + 1)) (Za ?_))
   have dW := (t_ (t_ ae.n ab.n) aa.n)
   have dX := (t_ (t_ (t_ (t_ ae.n ab.n) aa.n) ad.n) ac.n)
   have dY := (t_ (t_ (t_ (t_ (t_ (t_ ae.n ab.n) aa.n) ad.n) ac.n) ak.n) al.n)
   obtain rfl := oi_ ek
   exact bN bX _ _ lt_ ⟨ck.2, ck.1, (e + 1), (.slice co dV cq), db, bd, ha_, (fs_ V.wf (fs_ V.wf ((fs_ V.wf ((fs_ V.wf ((fs_ V.wf (fr_ V.wf) ae ir_).extR ab) aa (ax.fresh ae.n)).extR ad) ac (ao.fresh dW)).extR ak) al (an.fresh dX)) c9 (Inn.app Inn.left (Inn.app (Inn.right Inn.left) (Inn.trans (Inn.right (Inn.right ir_)) (Nat.le_refl _) aA)))), bO, dF, dG, (Inn.trans (Inn.trans ir_ (Nat.le_refl _) aA) dY dn)⟩
  have el := Zi aK aL
  refine ZL (Zj (Zj (ZV ?_)))
  obtain rfl := oi_ el
  obtain rfl := ZG bd
  exact dC _ _ ⟨(.slice bt bY bx), aJ, trivial, (fs_ V.wf (fr_ V.wf) ae ir_), bQ, au, bR, (Inn.trans ir_ (Nat.le_refl _) aA)⟩
 obtain ⟨bk, aO, bJ, da, dH, bP, dI, dp⟩ := hM
 obtain ⟨β, rfl⟩ := Zh bJ
 clear bJ
 obtain ⟨cp, dZ, cr, rfl⟩ := bP.form
 refine ZeY (vs := []) (rfl) ?_
 have d0 := (t_ (t_ (t_ aj.n ag.n) ah.n) V.n)
 obtain rfl := oi_ eq
 exact ⟨(.slice cp dZ cr), aO, rfl, (fs_ az (fs_ az (fs_ az (fs_ az ((fr_ az).extR aj) ag (aq.fresh (Nat.le_refl _))) ah (Inn.right Inn.left)) V in_) da ir_), dH, bP, dI, (Inn.trans ir_ d0 dp)⟩
theorem Zgc {H : AH} {U : Nat} {ai : Nat} {bb : Value} {aF : Fp} {bc : Value} {aj : Fp} {V : Nat} {aM : List (Bool × List (Int × Int × Int) × List (Int × Int × Int))} {aN : Int} {aO : Int} {ak : Int} {al : Int} {bv : List (Int × Int)} {bw : Int -> Option (Int × Int × Int)} {u : Int} {most : Int} {settles : Int} {r : (Int -> Option (Int × Int × Int)) × List (Int × Int)}
    (ah : WF H) (ax : Nd Zc 3 H bb aM aF []) (aw : Row H ai [bb, i_ aN, i_ aO]) (b7 : Ow Zw 2 H bc bv aj) (ay : Ms .i64 ZO H V bw) (av : Row H U [pt_ ai 0, i_ ak, i_ al, bc, .map (some V)]) (aD : Dj [V] aF) (aC : Dj [V] [ai]) (a_ : Dj [V] aj) (ar : Dj [V] [U]) (ba : Dj aj [U]) (aS : Dj aj aF) (an : Dj [U] aF) (aR : Dj aj [ai]) (am : Dj [U] [ai]) (bg : Zb8 aM aN aO ak al bv bw u most settles = some r) :
    ACalls Try.prog 36 #[pt_ U 0, i_ u, .int .u64 most, i_ settles] H fun v H' => ∃ (bu : Value) (f6 : Fp), v = .tuple #[] /\ FrS ([U] ++ ([V] ++ aj)) H H' /\ Ms .i64 ZO H' V r.1 /\ Ow Zw 2 H' bu r.2 f6 /\ Row H' U [pt_ ai 0, i_ ak, i_ al, bu, .map (some V)] /\ Inn aj H f6 := by
 refine ab_ Try.func36 ?_
 unfold Zb8 at bg
 refine sq_ fun ci => g_' (q_ (pt_ U 0) (q_ (i_ u) (q_ (.agg #[.int .u64 0, i_ 0, i_ 0]) ?_)))
 obtain ⟨bA, cc, cN⟩ := bs_ bg
 refine ck_ (Zen ah ax aw b7 ay av aD aC a_ ar ba aS an aR am cc) ?_
 rintro _ aB ⟨da, f15, rfl, O, cx, bl, cy, ag⟩
 obtain ⟨bG, cF, bL, rfl⟩ := bl.form
 refine Za (ci _ _ (sq_ fun cm => g_' (q_ (i_ settles) (l_' (i_ (max 0 settles)) (Zgw Try.prog [i_ 0, i_ settles]) (Zg8 _ _) (q_ (i_ 0) (Za (cm _ _ ?_)))))))
 obtain ⟨bC, ca, bt⟩ := bs_ cN
 refine ZC (fun α ao => ∃ aJ, bC = Sum.inr aJ /\ ∃ (aY : Value) (aE : Fp), Has α [] /\ FrS ([U] ++ ([V] ++ f15)) aB ao /\ Ms .i64 ZO ao V aJ.1 /\ Ow Zw 2 ao aY aJ.2 aE /\ Row ao U [pt_ ai 0, i_ ak, i_ al, aY, .map (some V)] /\ Inn f15 aB aE) (fun _ cn => ?_) (fun α ao hM => ?_)
 ·refine Zk ?_
  obtain ⟨bp, b9⟩ := Zv.1 ca
  refine ZJ (fun n α ap => ∃ (aK : List (Int × Int)), ∃ (aL : Int -> Option (Int × Int × Int)), ∃ (ae : Int), ∃ (aZ : Value), ∃ (au : Fp), ZN (fun zz_ => Zbk aM aN aO ak al most settles zz_.1 zz_.2.1 zz_.2.2) n (aK, aL, ae) = some bC /\ Has α [(0, pt_ U 0), (2, .int .u64 most), (16, i_ (max 0 settles)), (17, i_ ae)] /\ FrS ([U] ++ ([V] ++ f15)) aB ap /\ Ow Zw 2 ap aZ aK au /\ Ms .i64 ZO ap V aL /\ Row ap U [pt_ ai 0, i_ ak, i_ al, aZ, .map (some V)] /\ Inn f15 aB au) bp ⟨bA.2, bA.1, 0, (.slice bG cF bL), f15, b9, ha_, (fr_ O.wf), bl, cx, cy, ir_⟩ ?_
  rintro bp α ap ⟨aK, aL, ae, aZ, au, b8, bf, ac, aA, aH, bn, af⟩ c_ co
  obtain ⟨cG, c6, rfl, az, aV⟩ := Zx b8
  obtain ⟨β, rfl⟩ := Zh bf
  clear bf
  replace az : Zbk aM aN aO ak al most settles aK aL ae = some c6 := az
  unfold Zbk at az
  obtain ⟨bH, cH, bM, rfl⟩ := aA.form
  refine sq_ fun cp => g_' (q_ (.bool (decide (ae < (max 0 settles)))) (Za (cp _ _ (sq_ fun cq => ?_))))
  refine wc_ (ae < (max 0 settles)) (fun aU => ?_) fun aU => ?_
  ·have cT := Ze aU az
   refine Zf (cq _ _ (sq_ fun cr => Zk (sq_ fun cu => g_' (q_ (pt_ U 0) ?_))))
   have a6 := (ag.dj aS ax.lt)
   have bx := ((ax.fr O (Dj.app an (Dj.app aD aS))).fr ac (Dj.app an (Dj.app aD a6)))
   have a7 := (ag.dj aR aw.ltF)
   have bz := ((aw.frS O (Dj.app am (Dj.app aC aR))).frS ac (Dj.app am (Dj.app aC a7)))
   have aP := (af.dj a6 (ax.lt.le O.n))
   have aQ := (af.dj a7 (aw.ltF.le O.n))
   have bW := (ag.dj (Dj.symm a_) ay.ltF)
   have aq := (af.dj bW (ay.ltF.le O.n))
   have bX := (ag.dj ba av.ltF)
   have a8 := (af.dj bX (av.ltF.le O.n))
   obtain ⟨e, ce, cU⟩ := bs_ cT
   refine ck_ (Zf1 ac.wf bx bz aA aH bn aP aQ aq a8 (Dj.symm ar) an am ce) ?_
   rintro _ c8 ⟨dc, rfl, Y, aW, bo⟩
   obtain ⟨bI, cI, bN, rfl⟩ := aW.form
   refine q_ (.tuple #[i_ e.1, .agg #[.int .u64 e.2.1, i_ e.2.2.1, i_ e.2.2.2.1], .bool e.2.2.2.2.1]) (q_ (i_ e.1) (q_ (.agg #[.int .u64 e.2.1, i_ e.2.2.1, i_ e.2.2.2.1]) (q_ (.bool e.2.2.2.2.1) ?_)))
   refine rk_ Y.wf [.int .u64 0, i_ 0, i_ 0] fun a2 c9 ab ad cV => ?_
   refine q_ (i_ e.1) ?_
   obtain ⟨bD, cJ, aa, br⟩ := ra_ 101 0 ab.wf cV [.int .u64 e.2.1, i_ e.2.2.1, i_ e.2.2.2.1] [.int .u64 e.2.1, i_ e.2.2.1, i_ e.2.2.2.1]
   refine ek_ cJ (q_ (.bool e.2.2.2.2.1) (Za (cu _ _ (sq_ fun cj => sq_ fun ck => ?_))))
   obtain ⟨bq, bi, bs⟩ := bs_ cU
   refine ZC (fun α a1 => Has α [(0, pt_ U 0), (2, .int .u64 most), (8, i_ e.1), (9, pt_ a2 0), (16, i_ (max 0 settles)), (17, i_ ae), (32, .bool bq)] /\ bD = a1) (fun _ bj => ?_) (fun α a1 hM => ?_)
   ·refine g_' (q_ (.bool e.2.2.2.2.1) (q_ (.bool (!e.2.2.2.2.1)) (q_ (.bool (!e.2.2.2.2.1)) ?_)))
    by_cases aG : (!e.2.2.2.2.1) = true
    ·have cK := Ze aG bi
     rw [aG]
     refine n_' (n_' (n_' (n_' (q_ (.bool true) (Za ?_)))))
     obtain rfl := oi_ cK
     exact bj _ _ ⟨ha_, rfl⟩
    have cL := Zi aG bi
    rw [nb aG]
    refine q_ (pt_ a2 0) (lr_ 27 0 (.int .u64 e.2.1) br (q_ (.int .u64 most) (q_ (.bool (decide (e.2.1 > most))) (q_ (.bool (decide (e.2.1 > most))) (Za ?_)))))
    obtain rfl := oi_ cL
    exact bj _ _ ⟨ha_, rfl⟩
   obtain ⟨bd, rfl⟩ := hM
   obtain ⟨β, rfl⟩ := Zh bd
   clear bd
   refine ck _ _ ?_
   refine wb_ (bq) (fun aT => ?_) fun aT => ?_
   ·have cM := Ze aT bs
    refine Zg (Zn (Z5 (Zn (Zn (Z5 (Zn ?_))))))
    obtain ⟨dd, bh, cf⟩ := map_some cM
    subst cf
    obtain rfl := ZG aV
    have b_ := elim_inl bt
    rw [b_] at bh
    refine Zan (vs := []) (rfl) ?_
    have aX := (t_ (t_ O.n ac.n) Y.n)
    have bO := (ad.djn (ay.ltF.le aX))
    have cW := (((aH.frS Y (Dj.app (Dj.symm ar) aq)).ext ab).frS aa bO)
    have bP := (ad.djn (aA.lt.le Y.n))
    have cX := ((aW.ext ab).fr aa bP)
    have bQ := (ad.djn (av.ltF.le aX))
    have cY := ((bo.ext ab).frS aa bQ)
    obtain rfl := oi_ bh
    exact ⟨(.slice bI cI bN), au, rfl, (fs_ ah ((fs_ ah (fs_ ah (fs_ ah (fr_ ah) O ir_) ac (Inn.app Inn.left (Inn.app (Inn.right Inn.left) (Inn.trans (Inn.right (Inn.right ir_)) (Nat.le_refl _) ag)))) Y (Inn.app Inn.left (Inn.trans (Inn.trans (Inn.right (Inn.right ir_)) (Nat.le_refl _) ag) O.n af))).extR ab) aa (ad.fresh aX)), cW, cX, cY, (Inn.trans (Inn.trans ir_ (Nat.le_refl _) ag) O.n af)⟩
   have cO := ZK aT bs
   refine Zf (cj _ _ (g_' (q_ (pt_ U 0) (q_ (i_ e.1) (lr_ 101 0 (.agg #[.int .u64 e.2.1, i_ e.2.2.1, i_ e.2.2.2.1]) br ?_)))))
   have aI := (t_ (t_ O.n ac.n) Y.n)
   have bR := (ad.djn (ax.lt.le aI))
   have cZ := (((bx.fr Y (Dj.app an aP)).ext ab).fr aa bR)
   have bS := (ad.djn (aw.ltF.le aI))
   have c0 := (((bz.frS Y (Dj.app am aQ)).ext ab).frS aa bS)
   have bT := (ad.djn (aA.lt.le Y.n))
   have c3 := ((aW.ext ab).fr aa bT)
   have bU := (ad.djn (ay.ltF.le aI))
   have c4 := (((aH.frS Y (Dj.app (Dj.symm ar) aq)).ext ab).frS aa bU)
   have bV := (ad.djn (av.ltF.le aI))
   have c5 := ((bo.ext ab).frS aa bV)
   obtain ⟨bB, cd, cP⟩ := bs_ cO
   refine ck_ (Zfd aa.wf cZ c0 c3 c4 c5 ar (Dj.symm aq) aD aC a8 aP an aQ am aq cd) ?_
   rintro _ c7 ⟨db, b5, rfl, bY, cv, bk, cw, cg⟩
   obtain ⟨bE, cB, bJ, rfl⟩ := bk.form
   refine Za (cr _ _ (g_' ?_))
   obtain ⟨b6, cQ⟩ := Zb cP
   refine w_' ((ae + 1)) (Zo b6) (q_ (i_ (ae + 1)) (Za ?_))
   have cC := (t_ ac.n Y.n)
   have cD := (t_ (t_ (t_ ac.n Y.n) ab.n) aa.n)
   obtain rfl := oi_ cQ
   exact co cG _ _ lt_ ⟨bB.2, bB.1, (ae + 1), (.slice bE cB bJ), b5, aV, ha_, (fs_ O.wf (fs_ O.wf ((fs_ O.wf (fs_ O.wf (fr_ O.wf) ac ir_) Y (Inn.app Inn.left (Inn.trans (Inn.right (Inn.right ir_)) (Nat.le_refl _) af))).extR ab) aa (ad.fresh cC)) bY (Inn.app Inn.left (Inn.app (Inn.right Inn.left) (Inn.trans (Inn.right (Inn.right ir_)) (Nat.le_refl _) af)))), bk, cv, cw, (Inn.trans (Inn.trans ir_ (Nat.le_refl _) af) cD cg)⟩
  have cR := Zi aU az
  refine ZL (Zj (Zj (ZV ?_)))
  obtain rfl := oi_ cR
  obtain rfl := ZG aV
  exact cn _ _ ⟨_, rfl, (.slice bH cH bM), au, trivial, (fs_ O.wf (fr_ O.wf) ac ir_), aH, aA, bn, (Inn.trans ir_ (Nat.le_refl _) af)⟩
 obtain ⟨aJ, rfl, aY, aE, be, bZ, cz, bm, cA, ch⟩ := hM
 have cS := elim_inr bt
 obtain ⟨β, rfl⟩ := Zh be
 clear be
 obtain ⟨bF, cE, bK, rfl⟩ := bm.form
 refine ZeY (vs := []) (rfl) ?_
 obtain rfl := oi_ cS
 exact ⟨(.slice bF cE bK), aE, rfl, (fs_ ah (fs_ ah (fr_ ah) O ir_) bZ (Inn.app Inn.left (Inn.app (Inn.right Inn.left) (Inn.trans (Inn.right (Inn.right ir_)) (Nat.le_refl _) ag)))), cz, bm, cA, (Inn.trans (Inn.trans ir_ (Nat.le_refl _) ag) O.n ch)⟩
end Go.Vd

/-! (KSb7) -/

set_option maxRecDepth 100000
set_option maxHeartbeats 4000000
set_option linter.unusedVariables false
namespace Go.Vd
open Go.Proofs
attribute [local irreducible] Zm Zp aWp
theorem ZhS {H : AH} {aa : Nat} {bc : Value} {bW : Fp} {ae : Value} {bV : Fp} {aH : List (Bool × List (Int × Int × Int) × List (Int × Int × Int))} {aI : Int} {aJ : Int} {u : Int} {skip : Int} {goals : List (Int)} {most : Int} {hops : Int} {settles : Int} {r : List (Int) × Er}
    (ac : WF H) (ao : Nd Zc 3 H bc aH bW []) (an : Row H aa [bc, i_ aI, i_ aJ]) (ai : Sq (Zal .i64) 1 H ae goals bV) (bl : ZcN aH aI aJ u skip goals most hops settles = some r) :
    ACalls Try.prog 8 #[pt_ aa 0, i_ u, i_ skip, ae, .int .u64 most, i_ hops, i_ settles] H fun v H' => ∃ (bC : Value) (aR : Fp) (bF : Value) (aS : Fp), v = .tuple #[bC, bF] /\ FrS [] H H' /\ Ow (Zal .u64) 1 H' bC r.1 aR /\ Ev 90 129 H' bF r.2 aS /\ Inn [] H aR /\ Inn [] H aS /\ Dj aR aS := by
 refine ab_ Try.func8 ?_
 unfold ZcN at bl
 refine sq_ fun cq => g_' (q_ (.slice none 0 0) (q_ (.nilIface) (Za (cq _ _ (sq_ fun cu => sq_ fun cw => g_' (q_ (pt_ aa 0) (q_ (.bool false) (Za (cw _ _ ?_)))))))))
 refine wb_ false (fun h => by cases h) fun _ => ?_
 refine Zf (cu _ _ (sq_ fun cx => sq_ fun cB => g_' (q_ (pt_ aa 0) (q_ (i_ u) ?_))))
 obtain ⟨bG, ch, bz⟩ := bs_ bl
 refine ck_ (ZY ac ao an ch) ?_
 rintro _ _ ⟨rfl, rfl⟩
 refine q_ (.bool (!bG)) (Za (cB _ _ ?_))
 refine wb_ ((!bG)) (fun aU => ?_) fun aU => ?_
 ·have df := Ze aU bz
  refine sq_ fun cF => g_' (q_ (.iface 90 (i_ 7)) (q_ (.slice none 0 0) (q_ (.iface 90 (i_ 7)) (Za (cF _ _ ?_)))))
  refine Zg (Zn ?_)
  refine br_ [.slice none 0 0, .iface 90 (i_ 7)] ?_
  obtain rfl := oi_ df
  exact ⟨(.slice none 0 0), [], (.iface 90 (i_ 7)), [], rfl, (f0_ ac), (Ow.nil (by decide)), Ev.no, in_, in_, dn_⟩
 have di := ZK aU bz
 refine Zf (cx _ _ (sq_ fun cH => sq_ fun cI => g_' (q_ (ae) (ai.ln_ 26 (q_ (i_ 0) (Za (cI _ _ ?_)))))))
 obtain ⟨bI, cf, bA⟩ := bs_ di
 refine ZC (fun α a8 => ∃ bw, bI = Sum.inr bw /\ Has α [(0, pt_ aa 0), (1, i_ u), (2, i_ skip), (3, ae), (4, .int .u64 most), (5, i_ hops), (6, i_ settles)] /\ H = a8) (fun _ cJ => ?_) (fun α a8 hM => ?_)
 ·refine Zk ?_
  obtain ⟨bu, cc⟩ := Zv.1 cf
  refine ZJ (fun n α a_ => ∃ (U : Int), ZN (fun zz_ => Zck aH aI aJ goals zz_) n U = some bI /\ Has α [(0, pt_ aa 0), (1, i_ u), (2, i_ skip), (3, ae), (4, .int .u64 most), (5, i_ hops), (6, i_ settles), (33, ae), (34, i_ (goals.length : Int)), (35, i_ U)] /\ H = a_) bu ⟨0, cc, ha_, rfl⟩ ?_
  rintro bu α a_ ⟨U, b_, bg, rfl⟩ dP cK
  obtain ⟨c0, dE, rfl, ar, aX⟩ := Zx b_
  obtain ⟨β, rfl⟩ := Zh bg
  clear bg
  replace ar : Zck aH aI aJ goals U = some dE := ar
  unfold Zck at ar
  refine sq_ fun cL => g_' (q_ (.bool (decide (U < (goals.length : Int)))) (Za (cL _ _ (sq_ fun cM => ?_))))
  refine wc_ (U < (goals.length : Int)) (fun am => ?_) fun am => ?_
  ·have dk := Ze am ar
   refine Zf (cM _ _ (sq_ fun cN => Zk (sq_ fun cO => g_' (q_ (i_ U) ?_))))
   obtain ⟨bb, dm⟩ := Zb dk
   refine ai.ix_ 26 bb am (le_ 3 0 (i_ (gt goals U)) ai bb am (q_ (i_ U) (q_ (i_ (gt goals U)) (Za (cO _ _ (sq_ fun cP => g_' (q_ (pt_ aa 0) (q_ (i_ (gt goals U)) ?_))))))))
   obtain ⟨bH, ci, bB⟩ := bs_ dm
   refine ck_ (ZY ac ao an ci) ?_
   rintro _ _ ⟨rfl, rfl⟩
   refine q_ (.bool (!bH)) (Za (cP _ _ ?_))
   refine wb_ ((!bH)) (fun aV => ?_) fun aV => ?_
   ·have dn := Ze aV bB
    refine sq_ fun cQ => g_' (q_ (i_ U) (q_ (.iface 90 (i_ 7)) ?_))
    obtain ⟨ea, cj, dp⟩ := bs_ dn
    refine ck_ (ZhB ac (Ev.no (tf := 129)) cj) ?_
    rintro a7 dL ⟨_, bU, rfl, bR, cW, cn⟩
    refine q_ (.slice none 0 0) (q_ (a7) (Za (cQ _ _ ?_)))
    refine Zg (Z5 (Zn (Zn (Z5 (Zn (Zn ?_))))))
    obtain ⟨d_, bm, ck⟩ := map_some dp
    subst ck
    obtain rfl := ZG aX
    have cd := elim_inl bA
    rw [cd] at bm
    refine br_ [.slice none 0 0, a7] ?_
    obtain rfl := oi_ bm
    exact ⟨(.slice none 0 0), [], (a7), bU, rfl, (fs_ ac (f0_ ac) bR in_), (Ow.nil (by decide)), cW, in_, (cn.fresh (Nat.le_refl _)), dn_⟩
   have dq := ZK aV bB
   refine Zf (cN _ _ (g_' ?_))
   obtain ⟨b6, dr⟩ := Zb dq
   refine w_' ((U + 1)) (Zo (by have := b6; omega)) (q_ (i_ (U + 1)) (Za ?_))
   obtain rfl := oi_ dr
   exact cK c0 _ _ lt_ ⟨(U + 1), aX, ha_, rfl⟩
  have dt := Zi am ar
  refine ZL (Zj (Zj (ZV ?_)))
  obtain rfl := oi_ dt
  obtain rfl := ZG aX
  exact cJ _ _ ⟨_, rfl, ha_, rfl⟩
 obtain ⟨bw, rfl, bf, rfl⟩ := hM
 have du := elim_inr bA
 obtain ⟨β, rfl⟩ := Zh bf
 clear bf
 refine cH _ _ (sq_ fun cR => g_' (q_ (pt_ aa 0) (q_ (i_ skip) (q_ (i_ hops) ?_))))
 refine s_ms .i64 ZO ac (by kernel_rfl) fun ay dM ab aF br => ?_
 refine q_ (.agg #[pt_ aa 0, i_ skip, i_ hops, .slice none 0 0, .map (some ay)]) ?_
 refine rl_ ab.wf [pt_ aa 0, i_ skip, i_ hops, .slice none 0 0, .map (some ay)] fun ah dN ag ap dv => ?_
 refine q_ (pt_ ah 0) (Za (cR _ _ (sq_ fun cS => g_' (q_ (pt_ ah 0) (q_ (i_ u) (q_ (.int .u64 most) (q_ (i_ settles) ?_)))))))
 have dA := ((ao.ext ab).ext ag)
 have dB := ((an.ext ab).ext ag)
 have dC := (br.ext ag)
 have bK := (ap.djn br.ltF)
 have bL := (ap.djn (ao.lt.le ab.n))
 have bM := (ap.djn (an.ltF.le ab.n))
 obtain ⟨O, cg, c6⟩ := bs_ du
 refine ck_ (Zgc ag.wf dA dB (Ow.nil (enc := Zw) (sz := 2) (by decide)) dC dv (aF.djn ao.lt) (aF.djn an.ltF) Dj.nil_r (Dj.symm bK) dn_ dn_ bL dn_ bM cg) ?_
 rintro _ av ⟨d5, dW, rfl, V, cT, cU, cV, d1⟩
 obtain ⟨dQ, d2, dT, rfl⟩ := cU.form
 refine Za (cS _ _ (sq_ fun co => g_' (q_ (.slice none 0 0) (Za (co _ _ (sq_ fun cp => sq_ fun cr => g_' (q_ (ae) ?_)))))))
 have bN := (ap.djn (ai.lt.le ab.n))
 have bD := (((ai.ext ab).ext ag).fr V (Dj.app bN (Dj.app (aF.djn ai.lt) dn_)))
 refine bD.ln_ 26 (q_ (i_ 0) (Za (cr _ _ ?_)))
 obtain ⟨bv, ce, c7⟩ := bs_ c6
 refine ZC (fun α aK => ∃ (a2 : Value) (aC : Fp), Has α [(19, a2)] /\ FrS [] av aK /\ Ow (Zal .u64) 1 aK a2 bv aC /\ Inn [] av aC) (fun _ cv => ?_) (fun α aK hM => ?_)
 ·refine Zk ?_
  obtain ⟨bs, ca⟩ := Zv.1 ce
  refine ZJ (fun n α aw => ∃ (aj : List (Int)), ∃ (e : Int), ∃ (a6 : Value), ∃ (aD : Fp), ZN (fun zz_ => Zcj goals O zz_.1 zz_.2) n (aj, e) = some bv /\ Has α [(18, pt_ ah 0), (19, a6), (59, ae), (60, i_ (goals.length : Int)), (61, i_ e)] /\ FrS [] av aw /\ Ow (Zal .u64) 1 aw a6 aj aD /\ Inn [] av aD) bs ⟨[], 0, (.slice none 0 0), [], ca, ha_, (fr_ V.wf), (Ow.nil (by decide)), in_⟩ ?_
  rintro bs α aw ⟨aj, e, a6, aD, b9, be, Y, ak, au⟩ dO bn
  obtain ⟨bt, dD, rfl, aq, aW⟩ := Zx b9
  obtain ⟨β, rfl⟩ := Zh be
  clear be
  replace aq : Zcj goals O aj e = some dD := aq
  unfold Zcj at aq
  obtain ⟨aL, aY, aO, rfl⟩ := ak.form
  refine sq_ fun cy => g_' (q_ (.bool (decide (e < (goals.length : Int)))) (Za (cy _ _ (sq_ fun cz => ?_))))
  refine wc_ (e < (goals.length : Int)) (fun al => ?_) fun al => ?_
  ·have c8 := Ze al aq
   refine Zf (cz _ _ (sq_ fun bo => Zk (sq_ fun cA => g_' ?_)))
   obtain ⟨ba, bx⟩ := Zb c8
   have bE := (bD.fr Y dn_)
   refine bE.ix_ 26 ba al (le_ 3 0 (i_ (gt goals e)) bE ba al (q_ (i_ (gt goals e)) (Za (cA _ _ (sq_ fun cC => g_' (q_ (.int .u64 18446744073709551615) (Za (cC _ _ (sq_ fun bp => sq_ fun cD => g_' (q_ (pt_ ah 0) (q_ (pt_ ah 0) (q_ (pt_ ah 4) ?_))))))))))))
   have dw := (cV.frS Y dn_)
   refine lr_ 94 4 (.map (some ay)) dw (q_ (i_ (gt goals e)) ?_)
   have dx := (cT.frS Y dn_)
   refine l_' (.tuple #[.agg #[.int .u64 (((O.1 (gt goals e)).getD ((0, 0, 0) : Int × Int × Int)).1), i_ (((O.1 (gt goals e)).getD ((0, 0, 0) : Int × Int × Int)).2.1), i_ (((O.1 (gt goals e)).getD ((0, 0, 0) : Int × Int × Int)).2.2)], .bool ((O.1 (gt goals e)).isSome)]) (ZcR Try.prog 94 (.map (some ay)) (i_ (gt goals e)) true aw) (dx.look2 ((0, 0, 0) : Int × Int × Int) (zv := .agg #[.int .u64 0, i_ 0, i_ 0]) rfl (by kernel_rfl) (by kernel_rfl) _ rfl) (q_ (.tuple #[.agg #[.int .u64 (((O.1 (gt goals e)).getD ((0, 0, 0) : Int × Int × Int)).1), i_ (((O.1 (gt goals e)).getD ((0, 0, 0) : Int × Int × Int)).2.1), i_ (((O.1 (gt goals e)).getD ((0, 0, 0) : Int × Int × Int)).2.2)], .bool ((O.1 (gt goals e)).isSome)]) (q_ (.agg #[.int .u64 (((O.1 (gt goals e)).getD ((0, 0, 0) : Int × Int × Int)).1), i_ (((O.1 (gt goals e)).getD ((0, 0, 0) : Int × Int × Int)).2.1), i_ (((O.1 (gt goals e)).getD ((0, 0, 0) : Int × Int × Int)).2.2)]) (q_ (.bool ((O.1 (gt goals e)).isSome)) ?_)))
   refine rk_ Y.wf [.int .u64 0, i_ 0, i_ 0] fun bJ dF af aE c9 => ?_
   obtain ⟨dG, c3, ad, c_⟩ := ra_ 101 0 af.wf c9 [.int .u64 (((O.1 (gt goals e)).getD ((0, 0, 0) : Int × Int × Int)).1), i_ (((O.1 (gt goals e)).getD ((0, 0, 0) : Int × Int × Int)).2.1), i_ (((O.1 (gt goals e)).getD ((0, 0, 0) : Int × Int × Int)).2.2)] [.int .u64 (((O.1 (gt goals e)).getD ((0, 0, 0) : Int × Int × Int)).1), i_ (((O.1 (gt goals e)).getD ((0, 0, 0) : Int × Int × Int)).2.1), i_ (((O.1 (gt goals e)).getD ((0, 0, 0) : Int × Int × Int)).2.2)]
   refine ek_ c3 (q_ (.bool ((O.1 (gt goals e)).isSome)) (Za (cD _ _ (sq_ fun cE => g_' (q_ (.bool ((O.1 (gt goals e)).isSome)) (Za (cE _ _ ?_)))))))
   refine wb_ ((O.1 (gt goals e)).isSome) (fun aT => ?_) fun aT => ?_
   ·have da := Ze aT bx
    refine g_' (q_ (pt_ bJ 0) (lr_ 27 0 (.int .u64 (((O.1 (gt goals e)).getD ((0, 0, 0) : Int × Int × Int)).1)) c_ (q_ (.int .u64 (((O.1 (gt goals e)).getD ((0, 0, 0) : Int × Int × Int)).1)) (Za (bp _ _ (g_' (q_ (.slice aL aY aO) (q_ (.int .u64 (((O.1 (gt goals e)).getD ((0, 0, 0) : Int × Int × Int)).1)) ?_))))))))
    refine Zb9 (enc := (Zal .u64)) (sz := 1) ad.wf [((O.1 (gt goals e)).getD ((0, 0, 0) : Int × Int × Int)).1] 1 (by decide) (fun _ _ => rfl) (fun _ _ => rfl) rfl (by kernel_rfl) fun d6 dX dH aA dZ bh => ?_
    obtain ⟨dR, d3, dU, rfl⟩ := bh.form
    have dy := (((ak.ext af).fr ad (aE.djn ak.lt)).ext aA)
    obtain ⟨bX, db⟩ := Zb da
    obtain ⟨d7, dI, bS, c4, bP, bi, b7⟩ := Ow.append (P := Try.prog) 8 aA.wf dy bh.sq (fun _ _ => rfl) (at_ := #[36, 36]) rfl rfl (by kernel_rfl) (by kernel_rfl) (by decide) (by have := bX; first | omega | (simp only [List.length_cons, List.length_nil] at this ⊢; omega) | (simp at this ⊢; omega))
    obtain ⟨aM, aZ, aP, rfl⟩ := bi.form
    refine ZaY (.slice aM aZ aP) (by kernel_rfl) (c4) ?_
    refine q_ (.slice aM aZ aP) (Za (bo _ _ (g_' ?_)))
    obtain ⟨bY, dc⟩ := Zb db
    refine w_' ((e + 1)) (Zo (by have := bY; omega)) (q_ (i_ (e + 1)) (Za ?_))
    have cX := (t_ (t_ (t_ Y.n af.n) ad.n) aA.n)
    obtain rfl := oi_ dc
    exact bn bt _ _ lt_ ⟨(aj ++ [((O.1 (gt goals e)).getD ((0, 0, 0) : Int × Int × Int)).1]), (e + 1), (.slice aM aZ aP), bS, aW, ha_, (fs_ V.wf ((fs_ V.wf ((fs_ V.wf (fr_ V.wf) Y in_).extR af) ad (aE.fresh Y.n)).extR aA) bP (au.fresh (Nat.le_refl _))), bi, (Inn.trans (au.fresh (Nat.le_refl _)) cX b7)⟩
   have dd := ZK aT bx
   refine Zf (bp _ _ (g_' (q_ (.slice aL aY aO) (q_ (.int .u64 18446744073709551615) ?_))))
   refine Zb9 (enc := (Zal .u64)) (sz := 1) ad.wf [18446744073709551615] 1 (by decide) (fun _ _ => rfl) (fun _ _ => rfl) rfl (by kernel_rfl) fun d8 dY dJ aB d0 bj => ?_
   obtain ⟨dS, d4, dV, rfl⟩ := bj.form
   have dz := (((ak.ext af).fr ad (aE.djn ak.lt)).ext aB)
   obtain ⟨bZ, de⟩ := Zb dd
   obtain ⟨d9, dK, bT, c5, bQ, bk, b8⟩ := Ow.append (P := Try.prog) 8 aB.wf dz bj.sq (fun _ _ => rfl) (at_ := #[36, 36]) rfl rfl (by kernel_rfl) (by kernel_rfl) (by decide) (by have := bZ; first | omega | (simp only [List.length_cons, List.length_nil] at this ⊢; omega) | (simp at this ⊢; omega))
   obtain ⟨aN, a1, aQ, rfl⟩ := bk.form
   refine ZaY (.slice aN a1 aQ) (by kernel_rfl) (c5) ?_
   refine q_ (.slice aN a1 aQ) (Za (bo _ _ (g_' ?_)))
   obtain ⟨b5, dg⟩ := Zb de
   refine w_' ((e + 1)) (Zo (by have := b5; omega)) (q_ (i_ (e + 1)) (Za ?_))
   have cY := (t_ (t_ (t_ Y.n af.n) ad.n) aB.n)
   obtain rfl := oi_ dg
   exact bn bt _ _ lt_ ⟨(aj ++ [18446744073709551615]), (e + 1), (.slice aN a1 aQ), bT, aW, ha_, (fs_ V.wf ((fs_ V.wf ((fs_ V.wf (fr_ V.wf) Y in_).extR af) ad (aE.fresh Y.n)).extR aB) bQ (au.fresh (Nat.le_refl _))), bk, (Inn.trans (au.fresh (Nat.le_refl _)) cY b8)⟩
  have dh := Zi al aq
  refine ZL (Zj (Zj (ZV ?_)))
  obtain rfl := oi_ dh
  obtain rfl := ZG aW
  exact cv _ _ ⟨(.slice aL aY aO), aD, ha_, (fs_ V.wf (fr_ V.wf) Y in_), ak, (au.fresh (Nat.le_refl _))⟩
 obtain ⟨a2, aC, bd, bO, bq, cm⟩ := hM
 obtain ⟨β, rfl⟩ := Zh bd
 clear bd
 obtain ⟨ax, aG, az, rfl⟩ := bq.form
 refine cp _ _ (sq_ fun cG => g_' (q_ (.slice ax aG az) (q_ (.slice ax aG az) (q_ (.nilIface) (Za (cG _ _ ?_))))))
 refine Zg ?_
 refine br_ [.slice ax aG az, .nilIface] ?_
 have cZ := (t_ (t_ ab.n ag.n) V.n)
 obtain rfl := oi_ c7
 exact ⟨(.slice ax aG az), aC, (.nilIface), [], rfl, (fs_ ac (fs_ ac (((f0_ ac).extR ab).extR ag) V (Inn.app (ap.fresh ab.n) (Inn.app (aF.fresh (Nat.le_refl _)) in_))) bO in_), bq, Ev.nil, (cm.fresh cZ), in_, Dj.nil_r⟩
theorem Zik {H : AH} {av : Nat} {ci : Value} {dg : Fp} {bc : Value} {dh : Fp} {bg : List (Bool × List (Int × Int × Int) × List (Int × Int × Int))} {bh : Int} {bi : Int} {ag : Int} {ab : Int} {bo : Int} {aV : Int} {out : List (Int × Int × Int)} {hops : Int} {settles : Int} {r : List (Int × Int × Int)}
    (am : WF H) (ch : Nd Zc 3 H ci bg dg []) (cg : Row H av [ci, i_ bh, i_ bi]) (dz : Sq Zc 3 H bc out dh) (cz : Zda bg bh bi ag ab bo aV out hops settles = some r) :
    ACalls Try.prog 42 #[pt_ av 0, .agg #[i_ ag, .int .u64 ab, i_ bo], i_ aV, bc, i_ hops, i_ settles] H fun v H' => ∃ (cT : Value) (cd : Fp), v = cT /\ FrS [] H H' /\ Ow Zu 3 H' cT r cd /\ Inn [] H cd := by
 refine ab_ Try.func42 ?_
 unfold Zda at cz
 refine sq_ fun d7 => g_' ?_
 refine rl_ am [i_ ag, .int .u64 ab, i_ bo] fun au az aa fS bj => ?_
 refine q_ (.slice none 0 0) (Za (d7 _ _ (sq_ fun dM => g_' (q_ (.slice none 0 0) (Za (dM _ _ (sq_ fun dN => g_' (q_ (.slice none 0 0) (Za (dN _ _ (sq_ fun dO => g_' (q_ (.int .u64 0) (Za (dO _ _ (sq_ fun dP => sq_ fun dS => g_' (q_ (bc) ?_))))))))))))))))
 have cW := (dz.ext aa)
 refine cW.ln_ 69 (q_ (i_ 0) (Za (dS _ _ ?_)))
 obtain ⟨O, dG, cN⟩ := bs_ cz
 refine ZC (fun α aX => ∃ (bW : Value) (f27 : Fp) (bX : Value) (a_ : Fp), Has α [(0, pt_ av 0), (2, i_ aV), (4, i_ hops), (5, i_ settles), (7, pt_ au 0), (13, bW), (14, bX), (15, .int .u64 O.2.2)] /\ FrS [] az aX /\ Ow Zu 3 aX bW O.1 f27 /\ Ow (Zal .i64) 1 aX bX O.2.1 a_ /\ Inn [] az f27 /\ Inn [] az a_ /\ Dj f27 a_) (fun _ d4 => ?_) (fun α aX hM => ?_)
 ·refine Zk ?_
  obtain ⟨cJ, dF⟩ := Zv.1 dG
  refine ZJ (fun n α aY => ∃ (open0 : List (Int × Int × Int)), ∃ (goals1 : List (Int)), ∃ (most2 : Int), ∃ (U : Int), ∃ (bY : Value), ∃ (aE : Fp), ∃ (bZ : Value), ∃ (f48 : Fp), ZN (fun zz_ => ZbU ag ab out zz_.1 zz_.2.1 zz_.2.2.1 zz_.2.2.2) n (open0, goals1, most2, U) = some O /\ Has α [(0, pt_ av 0), (2, i_ aV), (4, i_ hops), (5, i_ settles), (7, pt_ au 0), (13, bY), (14, bZ), (15, .int .u64 most2), (25, bc), (26, i_ (out.length : Int)), (27, i_ U)] /\ FrS [] az aY /\ Ow Zu 3 aY bY open0 aE /\ Ow (Zal .i64) 1 aY bZ goals1 f48 /\ Inn [] az aE /\ Inn [] az f48 /\ Dj aE f48) cJ ⟨[], [], 0, 0, (.slice none 0 0), [], (.slice none 0 0), [], dF, ha_, (fr_ aa.wf), (Ow.nil (by decide)), (Ow.nil (by decide)), in_, in_, dn_⟩ ?_
  rintro cJ α aY ⟨open0, goals1, most2, U, bY, aE, bZ, f48, dD, cp, aj, ax, ay, bd, aP, a2⟩ fB cB
  obtain ⟨cK, z55, rfl, aO, bJ⟩ := Zx dD
  obtain ⟨β, rfl⟩ := Zh cp
  clear cp
  replace aO : ZbU ag ab out open0 goals1 most2 U = some z55 := aO
  unfold ZbU at aO
  obtain ⟨bt, bQ, bA, rfl⟩ := ax.form
  obtain ⟨bu, bR, bB, rfl⟩ := ay.form
  refine sq_ fun d8 => g_' (q_ (.bool (decide (U < (out.length : Int)))) (Za (d8 _ _ (sq_ fun d9 => ?_))))
  refine wc_ (U < (out.length : Int)) (fun aM => ?_) fun aM => ?_
  ·have eV := Ze aM aO
   refine Zf (d9 _ _ (sq_ fun cC => Zk (sq_ fun d_ => g_' ?_)))
   obtain ⟨cf, cS⟩ := Zb eV
   have c0 := (cW.fr aj dn_)
   refine c0.ix_ 69 cf aM (le_ 71 0 (.agg #[i_ ((gt out U).1), .int .u64 ((gt out U).2.1), i_ ((gt out U).2.2)]) c0 cf aM ?_)
   refine rk_ aj.wf [i_ 0, .int .u64 0, i_ 0] fun aJ fx ak aq eW => ?_
   obtain ⟨fy, er, al, bT⟩ := ra_ 71 0 ak.wf eW [i_ ((gt out U).1), .int .u64 ((gt out U).2.1), i_ ((gt out U).2.2)] [i_ ((gt out U).1), .int .u64 ((gt out U).2.1), i_ ((gt out U).2.2)]
   refine ek_ er (Za (d_ _ _ (sq_ fun ea => sq_ fun eb => g_' (q_ (pt_ aJ 0) (lr_ 3 0 (i_ ((gt out U).1)) bT (q_ (pt_ au 0) ?_))))))
   have c9 := (aq.djn (bj.ltF.le aj.n))
   have c3 := (((bj.frS aj dn_).ext ak).frS al c9)
   refine lr_ 3 0 (i_ ag) c3 (q_ (.bool (decide (((gt out U).1) = ag))) (Za (eb _ _ ?_)))
   refine wc_ (((gt out U).1) = ag) (fun bH => ?_) fun bH => ?_
   ·have eX := Ze bH cS
    refine ZL (Zj (ZV ?_))
    refine cC _ _ (g_' ?_)
    obtain ⟨dy, eY⟩ := Zb eX
    refine w_' ((U + 1)) (Zo (by have := dy; omega)) (q_ (i_ (U + 1)) (Za ?_))
    have fb := ((ax.ext ak).fr al (aq.djn ax.lt))
    have fc := ((ay.ext ak).fr al (aq.djn ay.lt))
    obtain rfl := oi_ eY
    exact cB cK _ _ lt_ ⟨open0, goals1, most2, (U + 1), (.slice bt bQ bA), aE, (.slice bu bR bB), f48, bJ, ha_, (fs_ aa.wf ((fs_ aa.wf (fr_ aa.wf) aj in_).extR ak) al (aq.fresh aj.n)), fb, fc, (bd.fresh (Nat.le_refl _)), (aP.fresh (Nat.le_refl _)), a2⟩
   have eZ := Zi bH cS
   refine Zf (ea _ _ (sq_ fun ec => g_' (q_ (.slice bu bR bB) (q_ (pt_ aJ 0) (lr_ 3 0 (i_ ((gt out U).1)) bT ?_)))))
   refine Zb9 (enc := (Zal .i64)) (sz := 1) al.wf [(gt out U).1] 1 (by decide) (fun _ _ => rfl) (fun _ _ => rfl) rfl (by kernel_rfl) fun gd fR fz ao fT cq => ?_
   obtain ⟨fC, f1, fG, rfl⟩ := cq.form
   have e1 := (((ay.ext ak).fr al (aq.djn ay.lt)).ext ao)
   obtain ⟨di, es⟩ := Zb eZ
   obtain ⟨f5, ff, dc, el, aC, bI, cj⟩ := Ow.append (P := Try.prog) 8 ao.wf e1 cq.sq (fun _ _ => rfl) (at_ := #[26, 26]) rfl rfl (by kernel_rfl) (by kernel_rfl) (by decide) (by have := di; first | omega | (simp only [List.length_cons, List.length_nil] at this ⊢; omega) | (simp at this ⊢; omega))
   obtain ⟨bp, bM, bv, rfl⟩ := bI.form
   refine ZaY (.slice bp bM bv) (by kernel_rfl) (el) ?_
   refine q_ (.slice bp bM bv) (Za (ec _ _ (sq_ fun dL => g_' (q_ (.int .u64 most2) (q_ (pt_ au 1) ?_)))))
   have b5 := ((c3.ext ao).frS aC (aP.djn bj.ltF))
   refine lr_ 27 1 (.int .u64 ab) b5 (q_ (pt_ aJ 1) ?_)
   have c4 := (aq.djn ay.lt)
   have b6 := ((bT.ext ao).frS aC (Dj.symm c4))
   refine lr_ 27 1 (.int .u64 ((gt out U).2.1)) b6 ?_
   obtain ⟨dk, et⟩ := Zb es
   refine s_w ((ab + ((gt out U).2.1))) (k := .u64) (x := (ab + ((gt out U).2.1))) (by kernel_rfl) (Zdr dk) ?_
   refine l_' (.int .u64 (max most2 (ab + ((gt out U).2.1)))) (Zgw Try.prog [.int .u64 most2, .int .u64 (ab + ((gt out U).2.1))]) (Zg8 _ _) (q_ (.int .u64 (max most2 (ab + ((gt out U).2.1)))) (Za (dL _ _ (g_' (q_ (.slice bt bQ bA) (q_ (pt_ au 0) (lr_ 3 0 (i_ ag) b5 (q_ (pt_ aJ 0) (lr_ 3 0 (i_ ((gt out U).1)) b6 (q_ (pt_ au 1) (lr_ 27 1 (.int .u64 ab) b5 (q_ (pt_ aJ 1) (lr_ 27 1 (.int .u64 ((gt out U).2.1)) b6 ?_)))))))))))))
   obtain ⟨dm, eu⟩ := Zb et
   refine s_w ((ab + ((gt out U).2.1))) (k := .u64) (x := (ab + ((gt out U).2.1))) (by kernel_rfl) (Zdr (by have := dm; omega)) ?_
   refine q_ (.agg #[i_ ag, i_ ((gt out U).1), .int .u64 (ab + ((gt out U).2.1))]) ?_
   refine Zb9 (enc := Zu) (sz := 3) aC.wf [(ag, (gt out U).1, (ab + ((gt out U).2.1)))] 1 (by decide) (fun _ _ => rfl) (fun _ _ => rfl) rfl (by kernel_rfl) fun f7 fM fg aD fU cr => ?_
   obtain ⟨fD, f2, fH, rfl⟩ := cr.form
   have e2 := (((((ax.ext ak).fr al (aq.djn ax.lt)).ext ao).fr aC (Dj.symm a2)).ext aD)
   obtain ⟨dn, ew⟩ := Zb eu
   obtain ⟨f8, fh, dd, em, cc, cu, ck⟩ := Ow.append (P := Try.prog) 24 aD.wf e2 cr.sq (fun _ _ => rfl) (at_ := #[46, 46]) rfl rfl (by kernel_rfl) (by kernel_rfl) (by decide) (by have := dn; first | omega | (simp only [List.length_cons, List.length_nil] at this ⊢; omega) | (simp at this ⊢; omega))
   obtain ⟨bq, bN, bw, rfl⟩ := cu.form
   refine ZaY (.slice bq bN bw) (by kernel_rfl) (em) ?_
   refine q_ (.slice bq bN bw) (Za (cC _ _ (g_' ?_)))
   obtain ⟨dp, ex⟩ := Zb ew
   refine w_' ((U + 1)) (Zo (by have := dp; omega)) (q_ (i_ (U + 1)) (Za ?_))
   have ee := (t_ (t_ ak.n al.n) ao.n)
   have ca := (cj.dj (Dj.symm a2) (ax.lt.le ee))
   have e3 := ((bI.ext aD).fr cc (Dj.symm ca))
   have ef := (t_ (t_ (t_ (t_ (t_ aj.n ak.n) al.n) ao.n) aC.n) aD.n)
   have eg := (t_ (t_ (t_ aj.n ak.n) al.n) ao.n)
   have c5 := (ck.dj (Dj.symm ca) (bI.lt.le aD.n))
   obtain rfl := oi_ ex
   exact cB cK _ _ lt_ ⟨(open0 ++ [(ag, (gt out U).1, (ab + ((gt out U).2.1)))]), (goals1 ++ [(gt out U).1]), (max most2 (ab + ((gt out U).2.1))), (U + 1), (.slice bq bN bw), dd, (.slice bp bM bv), dc, bJ, ha_, (fs_ aa.wf ((fs_ aa.wf ((fs_ aa.wf ((fs_ aa.wf (fr_ aa.wf) aj in_).extR ak) al (aq.fresh aj.n)).extR ao) aC (aP.fresh (Nat.le_refl _))).extR aD) cc (bd.fresh (Nat.le_refl _))), cu, e3, (Inn.trans (bd.fresh (Nat.le_refl _)) ef ck), (Inn.trans (aP.fresh (Nat.le_refl _)) eg cj), c5⟩
  have ey := Zi aM aO
  refine ZL (Zj (Zj (ZV ?_)))
  obtain rfl := oi_ ey
  obtain rfl := ZG bJ
  exact d4 _ _ ⟨(.slice bt bQ bA), aE, (.slice bu bR bB), f48, ha_, (fs_ aa.wf (fr_ aa.wf) aj in_), ax, ay, (bd.fresh (Nat.le_refl _)), (aP.fresh (Nat.le_refl _)), a2⟩
 obtain ⟨bW, f27, bX, a_, co, an, cE, bL, fZ, f0, fL⟩ := hM
 obtain ⟨β, rfl⟩ := Zh co
 clear co
 obtain ⟨b7, cF, b9, rfl⟩ := cE.form
 obtain ⟨b8, cG, b_, rfl⟩ := bL.form
 refine dP _ _ (sq_ fun dQ => sq_ fun dR => g_' (q_ (.slice b8 cG b_) (bL.sq.ln_ 26 (q_ (.bool (decide ((O.2.1.length : Int) = 0))) (Za (dR _ _ ?_))))))
 refine wc_ ((O.2.1.length : Int) = 0) (fun bC => ?_) fun bC => ?_
 ·have ez := Ze bC cN
  refine sq_ fun dT => g_' (q_ (.slice none 0 0) (Za (dT _ _ ?_)))
  refine Zg (Zn ?_)
  refine br_ [.slice none 0 0] ?_
  obtain rfl := oi_ ez
  exact ⟨(.slice none 0 0), [], rfl, (fs_ am ((f0_ am).extR aa) an in_), (Ow.nil (by decide)), in_⟩
 have eA := Zi bC cN
 refine Zf (dQ _ _ (sq_ fun dU => g_' (q_ (pt_ av 0) (q_ (pt_ au 0) ?_))))
 have e4 := (bj.frS an dn_)
 refine lr_ 3 0 (i_ ag) e4 (q_ (i_ aV) (q_ (.slice b8 cG b_) (q_ (.int .u64 O.2.2) (q_ (i_ hops) (q_ (i_ settles) ?_)))))
 have cU := ((ch.ext aa).fr an dn_)
 have cV := ((cg.ext aa).frS an dn_)
 obtain ⟨bl, dI, cM⟩ := bs_ eA
 refine ck_ (ZhS an.wf cU cV bL.sq dI) ?_
 rintro _ aW ⟨f9, fN, bk, fO, rfl, V, bK, ed, fX, fY, fK⟩
 obtain ⟨aH, aS, aK, rfl⟩ := bK.form
 refine q_ (.tuple #[.slice aH aS aK, bk]) (q_ (.slice aH aS aK) (q_ (bk) (q_ (.slice aH aS aK) (q_ (bk) (Za (dU _ _ (sq_ fun dV => sq_ fun cA => g_' (q_ (bk) ?_))))))))
 rcases (ed).cases with ⟨bD, rfl⟩ | ⟨bD, e0, fd, rfl⟩
 ·have eB := Ze bD cM
  refine q_ (.bool false) (Za (cA _ _ ?_))
  refine wb_ false (fun h => by cases h) fun _ => ?_
  refine Zf (dV _ _ (sq_ fun dW => g_' (q_ (.slice none 0 0) (Za (dW _ _ (sq_ fun dX => sq_ fun dY => g_' (q_ (.slice b7 cF b9) ?_)))))))
  have cX := (cE.fr V dn_)
  refine cX.sq.ln_ 46 (q_ (i_ 0) (Za (dY _ _ ?_)))
  obtain ⟨cL, dH, eC⟩ := bs_ eB
  refine ZC (fun α bm => ∃ (bU : Value) (a8 : Fp), Has α [(20, bU)] /\ FrS [] aW bm /\ Ow Zu 3 bm bU cL a8 /\ Inn [] aW a8) (fun _ dZ => ?_) (fun α bm hM => ?_)
  ·refine Zk ?_
   obtain ⟨cH, dE⟩ := Zv.1 dH
   refine ZJ (fun n α bn => ∃ (ap : List (Int × Int × Int)), ∃ (e : Int), ∃ (bV : Value), ∃ (aw : Fp), ZN (fun zz_ => ZbS bg bh bi O bl zz_.1 zz_.2) n (ap, e) = some cL /\ Has α [(0, pt_ av 0), (18, .slice aH aS aK), (20, bV), (79, .slice b7 cF b9), (80, i_ (O.1.length : Int)), (81, i_ e)] /\ FrS [] aW bn /\ Ow Zu 3 bn bV ap aw /\ Inn [] aW aw) cH ⟨[], 0, (.slice none 0 0), [], dE, ha_, (fr_ V.wf), (Ow.nil (by decide)), in_⟩ ?_
   rintro cH α bn ⟨ap, e, bV, aw, dC, cn, Y, ai, ar⟩ fA aQ
   obtain ⟨aT, fe, rfl, aN, aF⟩ := Zx dC
   obtain ⟨β, rfl⟩ := Zh cn
   clear cn
   replace aN : ZbS bg bh bi O bl ap e = some fe := aN
   unfold ZbS at aN
   obtain ⟨aA, aG, aB, rfl⟩ := ai.form
   refine sq_ fun d0 => g_' (q_ (.bool (decide (e < (O.1.length : Int)))) (Za (d0 _ _ (sq_ fun d1 => ?_))))
   refine wc_ (e < (O.1.length : Int)) (fun aL => ?_) fun aL => ?_
   ·have eD := Ze aL aN
    refine Zf (d1 _ _ (sq_ fun aR => Zk (sq_ fun d2 => g_' (q_ (i_ e) ?_))))
    obtain ⟨ba, eE⟩ := Zb eD
    have cY := (cX.fr Y dn_)
    refine cY.sq.ix_ 46 ba aL (le_ 110 0 (.agg #[i_ ((gt O.1 e).1), i_ ((gt O.1 e).2.1), .int .u64 ((gt O.1 e).2.2)]) cY.sq ba aL ?_)
    refine rk_ Y.wf [i_ 0, i_ 0, .int .u64 0] fun aI fj ac ah eF => ?_
    refine q_ (i_ e) ?_
    obtain ⟨fk, eo, ad, bS⟩ := ra_ 110 0 ac.wf eF [i_ ((gt O.1 e).1), i_ ((gt O.1 e).2.1), .int .u64 ((gt O.1 e).2.2)] [i_ ((gt O.1 e).1), i_ ((gt O.1 e).2.1), .int .u64 ((gt O.1 e).2.2)]
    refine ek_ eo (Za (d2 _ _ (sq_ fun d3 => g_' (q_ (pt_ av 0) (q_ (pt_ aI 0) (lr_ 3 0 (i_ ((gt O.1 e).1)) bS (q_ (pt_ aI 1) (lr_ 3 1 (i_ ((gt O.1 e).2.1)) bS ?_))))))))
    have cI := (t_ (t_ (t_ aa.n an.n) V.n) Y.n)
    have c6 := (ah.djn (ch.lt.le cI))
    have e5 := ((((cU.fr V dn_).fr Y dn_).ext ac).fr ad c6)
    have c7 := (ah.djn (cg.ltF.le cI))
    have e6 := ((((cV.frS V dn_).frS Y dn_).ext ac).frS ad c7)
    obtain ⟨af, dJ, cO⟩ := bs_ eE
    refine ck_ (Zdh ad.wf e5 e6 dJ) ?_
    rintro _ fm ⟨rfl, ae⟩
    refine q_ (.tuple #[.int .u64 af.1, .bool af.2]) (q_ (.int .u64 af.1) (q_ (.bool af.2) (q_ (.int .u64 af.1) (q_ (.bool af.2) (Za (d3 _ _ (sq_ fun be => ?_)))))))
    refine ZW [0, 1, 2, 3, 4, 5, 6, 7, 8, 9, 10, 11, 12, 13, 14, 15, 16, 17, 18, 19, 20, 21] (by kernel_rfl) ?_
    refine e_' (pt_ aI 2) ?_
    have aU := (bS.frS ae dn_)
    refine mr_ 27 2 (.int .u64 ((gt O.1 e).2.2)) aU ?_
    refine db_ (((gt O.1 e).2.2) ≤ 140737488355328) (fun bE => ?_) fun bE => ?_
    ·have eG := Ze bE cO
     refine e_' (.bool true) (e_' (.slice aH aS aK) (e_' (i_ e) ?_))
     obtain ⟨ce, cP⟩ := Zb eG
     have c8 := (ah.djn (bK.lt.le Y.n))
     have cZ := ((((bK.fr Y dn_).ext ac).fr ad c8).fr ae dn_)
     refine cZ.sq.mx_ 36 ba ce (me_ 27 0 (.int .u64 (gt bl.1 e)) cZ.sq ba ce (e_' (pt_ aI 2) (mr_ 27 2 (.int .u64 ((gt O.1 e).2.2)) aU ?_)))
     refine db_ ((gt bl.1 e) > ((gt O.1 e).2.2)) (fun bF => ?_) fun bF => ?_
     ·have cQ := Ze bF cP
      refine e_' (.bool true) (e_' (.bool true) (e_' (.bool af.2) (e_' (.bool af.2) ?_)))
      by_cases bb : af.2 = true
      ·have cR := Ze bb cQ
       rw [bb]
       refine e_' (.int .u64 af.1) (e_' (pt_ aI 2) (mr_ 27 2 (.int .u64 ((gt O.1 e).2.2)) aU (e_' (.bool (decide (af.1 ≤ ((gt O.1 e).2.2)))) (e_' (.bool (decide (af.1 ≤ ((gt O.1 e).2.2)))) (e_' (.bool (!decide (af.1 ≤ ((gt O.1 e).2.2)))) (e_' (.bool (!decide (af.1 ≤ ((gt O.1 e).2.2)))) ?_))))))
       refine ZR ?_
       refine be _ _ ?_
       refine ZeC (af.1 ≤ ((gt O.1 e).2.2)) (by kernel_rfl) rfl (fun bG => ?_) (fun bG => ?_)
       ·have eH := Zi bG cR
        refine g_' (q_ (.slice aA aG aB) (lr_ 110 0 (.agg #[i_ ((gt O.1 e).1), i_ ((gt O.1 e).2.1), .int .u64 ((gt O.1 e).2.2)]) aU ?_))
        refine Zb9 (enc := Zu) (sz := 3) ae.wf [((gt O.1 e).1, (gt O.1 e).2.1, (gt O.1 e).2.2)] 1 (by decide) (fun _ _ => rfl) (fun _ _ => rfl) rfl (by kernel_rfl) fun f_ fP fo a6 fV cv => ?_
        obtain ⟨fE, f3, fI, rfl⟩ := cv.form
        have e7 := ((((ai.ext ac).fr ad (ah.djn ai.lt)).fr ae dn_).ext a6)
        obtain ⟨dq, eI⟩ := Zb eH
        obtain ⟨ga, fu, de, ep, da, cw, dA⟩ := Ow.append (P := Try.prog) 24 a6.wf e7 cv.sq (fun _ _ => rfl) (at_ := #[46, 46]) rfl rfl (by kernel_rfl) (by kernel_rfl) (by decide) (by have := dq; first | omega | (simp only [List.length_cons, List.length_nil] at this ⊢; omega) | (simp at this ⊢; omega))
        obtain ⟨br, bO, bx, rfl⟩ := cw.form
        refine ZaY (.slice br bO bx) (by kernel_rfl) (ep) ?_
        refine q_ (.slice br bO bx) (Za (aR _ _ (g_' ?_)))
        obtain ⟨dr, eJ⟩ := Zb eI
        refine w_' ((e + 1)) (Zo (by have := dr; omega)) (q_ (i_ (e + 1)) (Za ?_))
        have eh := (t_ (t_ (t_ (t_ Y.n ac.n) ad.n) ae.n) a6.n)
        obtain rfl := oi_ eJ
        exact aQ aT _ _ lt_ ⟨(ap ++ [((gt O.1 e).1, (gt O.1 e).2.1, (gt O.1 e).2.2)]), (e + 1), (.slice br bO bx), de, aF, ha_, (fs_ V.wf ((fs_ V.wf (fs_ V.wf ((fs_ V.wf (fr_ V.wf) Y in_).extR ac) ad (ah.fresh Y.n)) ae in_).extR a6) da (ar.fresh (Nat.le_refl _))), cw, (Inn.trans (ar.fresh (Nat.le_refl _)) eh dA)⟩
       have eK := Ze bG cR
       refine Zf (aR _ _ (g_' ?_))
       obtain ⟨dt, eL⟩ := Zb eK
       refine w_' ((e + 1)) (Zo (by have := dt; omega)) (q_ (i_ (e + 1)) (Za ?_))
       have e8 := (((ai.ext ac).fr ad (ah.djn ai.lt)).fr ae dn_)
       obtain rfl := oi_ eL
       exact aQ aT _ _ lt_ ⟨ap, (e + 1), (.slice aA aG aB), aw, aF, ha_, (fs_ V.wf (fs_ V.wf ((fs_ V.wf (fr_ V.wf) Y in_).extR ac) ad (ah.fresh Y.n)) ae in_), e8, (ar.fresh (Nat.le_refl _))⟩
      have eM := Zi bb cQ
      rw [nb bb]
      refine j_' (j_' (j_' (j_' (e_' (.bool false) (e_' (.bool true) (e_' (.bool true) ?_))))))
      refine ZR ?_
      refine be _ _ ?_
      refine wb_ true (fun _ => ?_) fun h => by cases h
      refine g_' (q_ (.slice aA aG aB) (lr_ 110 0 (.agg #[i_ ((gt O.1 e).1), i_ ((gt O.1 e).2.1), .int .u64 ((gt O.1 e).2.2)]) aU ?_))
      refine Zb9 (enc := Zu) (sz := 3) ae.wf [((gt O.1 e).1, (gt O.1 e).2.1, (gt O.1 e).2.2)] 1 (by decide) (fun _ _ => rfl) (fun _ _ => rfl) rfl (by kernel_rfl) fun gb fQ fv a7 fW cx => ?_
      obtain ⟨fF, f4, fJ, rfl⟩ := cx.form
      have e9 := ((((ai.ext ac).fr ad (ah.djn ai.lt)).fr ae dn_).ext a7)
      obtain ⟨du, eN⟩ := Zb eM
      obtain ⟨gc, fw, df, eq, db, cy, dB⟩ := Ow.append (P := Try.prog) 24 a7.wf e9 cx.sq (fun _ _ => rfl) (at_ := #[46, 46]) rfl rfl (by kernel_rfl) (by kernel_rfl) (by decide) (by have := du; first | omega | (simp only [List.length_cons, List.length_nil] at this ⊢; omega) | (simp at this ⊢; omega))
      obtain ⟨bs, bP, bz, rfl⟩ := cy.form
      refine ZaY (.slice bs bP bz) (by kernel_rfl) (eq) ?_
      refine q_ (.slice bs bP bz) (Za (aR _ _ (g_' ?_)))
      obtain ⟨dv, eO⟩ := Zb eN
      refine w_' ((e + 1)) (Zo (by have := dv; omega)) (q_ (i_ (e + 1)) (Za ?_))
      have ej := (t_ (t_ (t_ (t_ Y.n ac.n) ad.n) ae.n) a7.n)
      obtain rfl := oi_ eO
      exact aQ aT _ _ lt_ ⟨(ap ++ [((gt O.1 e).1, (gt O.1 e).2.1, (gt O.1 e).2.2)]), (e + 1), (.slice bs bP bz), df, aF, ha_, (fs_ V.wf ((fs_ V.wf (fs_ V.wf ((fs_ V.wf (fr_ V.wf) Y in_).extR ac) ad (ah.fresh Y.n)) ae in_).extR a7) db (ar.fresh (Nat.le_refl _))), cy, (Inn.trans (ar.fresh (Nat.le_refl _)) ej dB)⟩
     have eP := Zi bF cP
     refine e_' (.bool false) (e_' (.bool false) (j_' (j_' (j_' (j_' (j_' (j_' (j_' (j_' (e_' (.bool false) ?_))))))))))
     refine ZR ?_
     refine be _ _ ?_
     refine wb_ false (fun h => by cases h) fun _ => ?_
     refine Zf (aR _ _ (g_' ?_))
     obtain ⟨dw, eQ⟩ := Zb eP
     refine w_' ((e + 1)) (Zo (by have := dw; omega)) (q_ (i_ (e + 1)) (Za ?_))
     have e_ := (((ai.ext ac).fr ad (ah.djn ai.lt)).fr ae dn_)
     obtain rfl := oi_ eQ
     exact aQ aT _ _ lt_ ⟨ap, (e + 1), (.slice aA aG aB), aw, aF, ha_, (fs_ V.wf (fs_ V.wf ((fs_ V.wf (fr_ V.wf) Y in_).extR ac) ad (ah.fresh Y.n)) ae in_), e_, (ar.fresh (Nat.le_refl _))⟩
    have eR := Zi bE cO
    refine e_' (.bool false) (j_' (j_' (j_' (j_' (j_' (j_' (j_' (e_' (.bool false) (e_' (.bool false) (j_' (j_' (j_' (j_' (j_' (j_' (j_' (j_' (e_' (.bool false) ?_))))))))))))))))))
    refine ZR ?_
    refine be _ _ ?_
    refine wb_ false (fun h => by cases h) fun _ => ?_
    refine Zf (aR _ _ (g_' ?_))
    obtain ⟨dx, eS⟩ := Zb eR
    refine w_' ((e + 1)) (Zo (by have := dx; omega)) (q_ (i_ (e + 1)) (Za ?_))
    have fa := (((ai.ext ac).fr ad (ah.djn ai.lt)).fr ae dn_)
    obtain rfl := oi_ eS
    exact aQ aT _ _ lt_ ⟨ap, (e + 1), (.slice aA aG aB), aw, aF, ha_, (fs_ V.wf (fs_ V.wf ((fs_ V.wf (fr_ V.wf) Y in_).extR ac) ad (ah.fresh Y.n)) ae in_), fa, (ar.fresh (Nat.le_refl _))⟩
   have eT := Zi aL aN
   refine ZL (Zj (Zj (ZV ?_)))
   obtain rfl := oi_ eT
   obtain rfl := ZG aF
   exact dZ _ _ ⟨(.slice aA aG aB), aw, ha_, (fs_ V.wf (fr_ V.wf) Y in_), ai, (ar.fresh (Nat.le_refl _))⟩
  obtain ⟨bU, a8, cm, c_, cD, dK⟩ := hM
  obtain ⟨β, rfl⟩ := Zh cm
  clear cm
  obtain ⟨aZ, bf, a1, rfl⟩ := cD.form
  refine dX _ _ (sq_ fun d5 => g_' (q_ (.slice aZ bf a1) (q_ (.slice aZ bf a1) (Za (d5 _ _ ?_)))))
  refine Zg ?_
  refine br_ [.slice aZ bf a1] ?_
  have ek := (t_ (t_ aa.n an.n) V.n)
  obtain rfl := oi_ eC
  exact ⟨(.slice aZ bf a1), a8, rfl, (fs_ am (fs_ am (fs_ am ((f0_ am).extR aa) an in_) V in_) c_ in_), cD, (dK.fresh ek)⟩
 have eU := Zi bD cM
 refine l_' (.bool true) (ZcD Try.prog .neq 38 (.tmp 77) (.const .nilIface) (.iface e0 fd) .nilIface) (ZcU (by kernel_rfl)) (Za (cA _ _ ?_))
 refine wb_ true (fun _ => ?_) fun h => by cases h
 refine sq_ fun d6 => g_' (q_ (.slice none 0 0) (Za (d6 _ _ ?_)))
 refine Zg (Zn ?_)
 refine br_ [.slice none 0 0] ?_
 obtain rfl := oi_ eU
 exact ⟨(.slice none 0 0), [], rfl, (fs_ am (fs_ am ((f0_ am).extR aa) an in_) V in_), (Ow.nil (by decide)), in_⟩
theorem ZdZ {H : AH} {ac : Nat} {a2 : Value} {bE : Fp} {aD : List (Bool × List (Int × Int × Int) × List (Int × Int × Int))} {aE : Int} {aF : Int} {ab : Int} {au : Int} {av : Int} {aq : Int} {ao : Int} {ap : Int} {r : List (Int × Int × Int) × Er}
    (af : WF H) (a1 : Nd Zc 3 H a2 aD bE []) (aZ : Row H ac [a2, i_ aE, i_ aF]) (ba : ZbD aD aE aF ab au av aq ao ap = some r) :
    ACalls Try.prog 13 #[pt_ ac 0, i_ ab, .agg #[i_ au, i_ av, i_ aq, i_ ao, i_ ap]] H fun v H' => ∃ (bk : Value) (aM : Fp) (bt : Value) (aN : Fp), v = .tuple #[bk, bt] /\ FrS [] H H' /\ Ow Zu 3 H' bk r.1 aM /\ Ev 90 129 H' bt r.2 aN /\ Inn [] H aM /\ Inn [] H aN /\ Dj aM aN := by
 refine ab_ Try.func13 ?_
 unfold ZbD at ba
 refine sq_ fun bX => g_' ?_
 refine rl_ af [i_ au, i_ av, i_ aq, i_ ao, i_ ap] fun cS cK aa cX cv => ?_
 refine q_ (.slice none 0 0) (q_ (.nilIface) (Za (bX _ _ (sq_ fun b5 => sq_ fun b6 => g_' (q_ (pt_ ac 0) (q_ (i_ ab) ?_))))))
 have bm := (a1.ext aa)
 have bn := (aZ.ext aa)
 obtain ⟨c8, bM, bj⟩ := bs_ ba
 refine ck_ (ZhK aa.wf bm bn bM) ?_
 rintro bs _ ⟨_, f27, rfl, rfl, bd, bQ⟩
 refine q_ (bs) (Za (b6 _ _ (sq_ fun bb => g_' (q_ (bs) ?_))))
 rcases (bd).cases with ⟨aO, rfl⟩ | ⟨aO, am, an, rfl⟩
 ·have cx := Ze aO bj
  refine q_ (.bool false) (Za (bb _ _ ?_))
  refine wb_ false (fun h => by cases h) fun _ => ?_
  refine Zf (b5 _ _ (sq_ fun b7 => g_' (lr_ 44 0 (.agg #[i_ au, i_ av, i_ aq, i_ ao, i_ ap]) cv ?_)))
  obtain ⟨V, bN, cy⟩ := bs_ cx
  refine ck_ (Zg5 aa.wf bN) ?_
  rintro _ cN ⟨rfl, ag⟩
  refine q_ (.tuple #[i_ V.1, i_ V.2]) (q_ (i_ V.1) (q_ (i_ V.2) (q_ (i_ V.1) (q_ (i_ V.2) (Za (b7 _ _ (sq_ fun b8 => g_' (q_ (pt_ ac 0) (q_ (i_ ab) ?_)))))))))
  have bo := (bm.fr ag dn_)
  have bp := (bn.frS ag dn_)
  obtain ⟨bu, bO, cz⟩ := bs_ cy
  refine ck_ (ZdO ag.wf bo bp bO) ?_
  rintro c6 cO ⟨_, cV, rfl, ah, aQ, cZ⟩
  obtain ⟨aJ, aT, aL, rfl⟩ := aQ.form
  refine q_ (.slice aJ aT aL) (Za (b8 _ _ (sq_ fun b9 => g_' (q_ (.slice none 0 0) (Za (b9 _ _ (sq_ fun b_ => sq_ fun ca => g_' (q_ (pt_ ac 0) (q_ (i_ ab) ?_)))))))))
  have bq := (bo.fr ah dn_)
  have br := (bp.frS ah dn_)
  obtain ⟨O, bP, cA⟩ := bs_ cz
  refine ck_ (ZfT ah.wf bq br bP) ?_
  rintro c7 ar ⟨_, cW, rfl, U, aR, c0⟩
  obtain ⟨bv, ch, bw, rfl⟩ := aR.form
  refine aR.sq.ln_ 69 (q_ (i_ 0) (Za (ca _ _ ?_)))
  obtain ⟨bi, bK, cB⟩ := bs_ cA
  refine ZC (fun α aG => ∃ (aU : Value) (az : Fp), Has α [(12, aU)] /\ FrS [] ar aG /\ Ow Zu 3 aG aU bi az /\ Inn [] ar az) (fun _ cc => ?_) (fun α aG hM => ?_)
  ·refine Zk ?_
   obtain ⟨bh, bJ⟩ := Zv.1 bK
   refine ZJ (fun n α aH => ∃ (al : List (Int × Int × Int)), ∃ (e : Int), ∃ (aV : Value), ∃ (aA : Fp), ZN (fun zz_ => Zb5 aD aE aF ab V bu O zz_.1 zz_.2) n (al, e) = some bi /\ Has α [(0, pt_ ac 0), (1, i_ ab), (9, i_ V.1), (10, i_ V.2), (11, .slice aJ aT aL), (12, aV), (31, .slice bv ch bw), (32, i_ (O.length : Int)), (33, i_ e)] /\ FrS [] ar aH /\ Ow Zu 3 aH aV al aA /\ Inn [] ar aA) bh ⟨[], 0, (.slice none 0 0), [], bJ, ha_, (fr_ U.wf), (Ow.nil (by decide)), in_⟩ ?_
   rintro bh α aH ⟨al, e, aV, aA, bI, a7, Y, aB, aP⟩ cP bS
   obtain ⟨cd, cH, rfl, ak, a_⟩ := Zx bI
   obtain ⟨β, rfl⟩ := Zh a7
   clear a7
   replace ak : Zb5 aD aE aF ab V bu O al e = some cH := ak
   unfold Zb5 at ak
   obtain ⟨aW, bf, aX, rfl⟩ := aB.form
   refine sq_ fun bT => g_' (q_ (.bool (decide (e < (O.length : Int)))) (Za (bT _ _ (sq_ fun bU => ?_))))
   refine wc_ (e < (O.length : Int)) (fun ai => ?_) fun ai => ?_
   ·have ck := Ze ai ak
    refine Zf (bU _ _ (sq_ fun bV => Zk (sq_ fun bW => g_' ?_)))
    obtain ⟨aY, cm⟩ := Zb ck
    have bl := (aR.fr Y dn_)
    refine bl.sq.ix_ 69 aY ai (le_ 71 0 (.agg #[i_ ((gt O e).1), .int .u64 ((gt O e).2.1), i_ ((gt O e).2.2)]) bl.sq aY ai ?_)
    refine rk_ Y.wf [i_ 0, .int .u64 0, i_ 0] fun cR cI ad aj cn => ?_
    obtain ⟨cJ, ci, ae, co⟩ := ra_ 71 0 ad.wf cn [i_ ((gt O e).1), .int .u64 ((gt O e).2.1), i_ ((gt O e).2.2)] [i_ ((gt O e).1), .int .u64 ((gt O e).2.1), i_ ((gt O e).2.2)]
    refine ek_ ci (Za (bW _ _ (g_' (q_ (.slice aW bf aX) (q_ (pt_ ac 0) (lr_ 71 0 (.agg #[i_ ((gt O e).1), .int .u64 ((gt O e).2.1), i_ ((gt O e).2.2)]) co (q_ (i_ ab) (q_ (.slice aJ aT aL) (q_ (i_ V.1) (q_ (i_ V.2) ?_))))))))))
    have bg := (t_ (t_ (t_ (t_ aa.n ag.n) ah.n) U.n) Y.n)
    have bx := (aj.djn (a1.lt.le bg))
    have cC := ((((bq.fr U dn_).fr Y dn_).ext ad).fr ae bx)
    have bz := (aj.djn (aZ.ltF.le bg))
    have cD := ((((br.frS U dn_).frS Y dn_).ext ad).frS ae bz)
    have ce := (t_ U.n Y.n)
    have bA := (aj.djn (aQ.lt.le ce))
    have cE := ((((aQ.fr U dn_).fr Y dn_).ext ad).fr ae bA)
    obtain ⟨cG, bL, cp⟩ := bs_ cm
    refine ck_ (Zik ae.wf cC cD cE.sq bL) ?_
    rintro c4 cL ⟨_, cU, rfl, ay, bc, cY⟩
    obtain ⟨cQ, c3, cT, rfl⟩ := bc.form
    have cF := (((aB.ext ad).fr ae (aj.djn aB.lt)).fr ay dn_)
    obtain ⟨bF, cq⟩ := Zb cp
    obtain ⟨c5, cM, bD, cj, bB, a8, bH⟩ := Ow.append (P := Try.prog) 24 ay.wf cF bc.sq (fun _ _ => rfl) (at_ := #[46, 46]) rfl rfl (by kernel_rfl) (by kernel_rfl) (by decide) (by have := bF; first | omega | (simp only [List.length_cons, List.length_nil] at this ⊢; omega) | (simp at this ⊢; omega))
    obtain ⟨aI, aS, aK, rfl⟩ := a8.form
    refine ZaY (.slice aI aS aK) (by kernel_rfl) (cj) ?_
    refine q_ (.slice aI aS aK) (Za (bV _ _ (g_' ?_)))
    obtain ⟨bG, cr⟩ := Zb cq
    refine w_' ((e + 1)) (Zo (by have := bG; omega)) (q_ (i_ (e + 1)) (Za ?_))
    have cf := (t_ (t_ (t_ Y.n ad.n) ae.n) ay.n)
    obtain rfl := oi_ cr
    exact bS cd _ _ lt_ ⟨(al ++ cG), (e + 1), (.slice aI aS aK), bD, a_, ha_, (fs_ U.wf (fs_ U.wf (fs_ U.wf ((fs_ U.wf (fr_ U.wf) Y in_).extR ad) ae (aj.fresh Y.n)) ay in_) bB (aP.fresh (Nat.le_refl _))), a8, (Inn.trans (aP.fresh (Nat.le_refl _)) cf bH)⟩
   have cu := Zi ai ak
   refine ZL (Zj (Zj (ZV ?_)))
   obtain rfl := oi_ cu
   obtain rfl := ZG a_
   exact cc _ _ ⟨(.slice aW bf aX), aA, ha_, (fs_ U.wf (fr_ U.wf) Y in_), aB, (aP.fresh (Nat.le_refl _))⟩
  obtain ⟨aU, az, a6, bC, be, bR⟩ := hM
  obtain ⟨β, rfl⟩ := Zh a6
  clear a6
  obtain ⟨aw, aC, ax, rfl⟩ := be.form
  refine b_ _ _ (sq_ fun bY => g_' (q_ (.slice aw aC ax) (q_ (.slice aw aC ax) (q_ (.nilIface) (Za (bY _ _ ?_))))))
  refine Zg ?_
  refine br_ [.slice aw aC ax, .nilIface] ?_
  have cg := (t_ (t_ (t_ aa.n ag.n) ah.n) U.n)
  obtain rfl := oi_ cB
  exact ⟨(.slice aw aC ax), az, (.nilIface), [], rfl, (fs_ af (fs_ af (fs_ af (fs_ af ((f0_ af).extR aa) ag in_) ah in_) U in_) bC in_), be, Ev.nil, (bR.fresh cg), in_, Dj.nil_r⟩
 have cw := Zi aO bj
 refine l_' (.bool true) (ZcD Try.prog .neq 38 (.tmp 18) (.const .nilIface) (.iface am an) .nilIface) (ZcU (by kernel_rfl)) (Za (bb _ _ ?_))
 refine wb_ true (fun _ => ?_) fun h => by cases h
 refine sq_ fun bZ => g_' (q_ (.iface am an) (q_ (.slice none 0 0) (q_ (.iface am an) (Za (bZ _ _ ?_)))))
 refine Zg (Zn ?_)
 refine br_ [.slice none 0 0, .iface am an] ?_
 obtain rfl := oi_ cw
 exact ⟨(.slice none 0 0), [], (.iface am an), f27, rfl, ((f0_ af).extR aa), (Ow.nil (by decide)), bd, in_, (bQ.fresh aa.n), dn_⟩
end Go.Vd

/-! (KSb8) -/

set_option maxRecDepth 100000
set_option maxHeartbeats 4000000
set_option linter.unusedVariables false
namespace Go.Vd
open Go.Proofs
attribute [local irreducible] Zm Zp aWp
theorem ZeP {H : AH} {a6 : Value} {dV : Fp} {a7 : Value} {dW : Fp} {ae : List (Bool)} {Arcs : List (Int × Int × Int × Int)} {r : List (List (Int))}
    (bg : WF H) (a2 : Sq Zc2 1 H a6 ae dV) (bn : Sq Zr 4 H a7 Arcs dW) (cM : ZaS ae Arcs = some r) :
    ACalls Try.prog 14 #[.agg #[a6, a7]] H fun v H' => ∃ (dd : Value) (cg : Fp), v = dd /\ FrS [] H H' /\ Nst (CR.sl (Zal .u64) 1) H' dd r cg /\ Inn [] H cg := by
 refine ab_ Try.func14 ?_
 unfold ZaS at cM
 refine sq_ fun f8 => g_' ?_
 refine ZbJ bg [a6, a7] (Zy (a2.one1) (Zy (bn.one1) (Zau))) (by kernel_rfl) fun aC hW am ix aF => ?_
 refine q_ (.slice none 0 0) (Za (f8 _ _ (sq_ fun fo => g_' (q_ (pt_ aC 0) (lr_ 30 0 (a6) aF ?_)))))
 have de := (a2.ext am)
 refine de.ln_ 30 (q_ (i_ (ae.length : Int)) (Za (fo _ _ (sq_ fun fw => g_' (q_ (i_ (ae.length : Int)) ?_)))))
 obtain ⟨ci, gM⟩ := Zb cM
 refine Zkp (t := 49) (m := 24) (l := (ae.length : Int)) (c := (ae.length : Int)) (enc := id) (sz := 1) am.wf [.slice none 0 0] (by kernel_rfl) (by decide) ci.1 (Int.le_refl _) (by omega) (by have := ci; omega) (by kernel_rfl) fun iB aO aU aj aB aI => ?_
 replace aI := Nst.zeros (C := (CR.sl (Zal .u64) 1)) (x0 := ([] : List (Int))) aI (fun _ => Zi0 (Ow.nil (by decide)))
 obtain ⟨O, Y, U, rfl⟩ := aI.form
 have aI : Nst (CR.sl (Zal .u64) 1) aU (.slice O Y U) (List.replicate ae.length ([] : List (Int))) aO := aI
 refine q_ (.slice O Y U) (Za (fw _ _ (sq_ fun fF => sq_ fun fI => g_' (q_ (.slice O Y U) (aI.ln_ 49 (q_ (i_ 0) (Za (fI _ _ ?_))))))))
 obtain ⟨b7, fe, g5⟩ := bs_ gM
 refine ZC (fun α aX => ∃ (af : Fp), Has α [(1, pt_ aC 0), (4, .slice O Y U)] /\ FrS aO aU aX /\ Nst (CR.sl (Zal .u64) 1) aX (.slice O Y U) b7 af /\ Inn aO aU af) (fun _ f2 => ?_) (fun α aX hM => ?_)
 ·refine Zk ?_
  obtain ⟨c7, eH⟩ := Zv.1 fe
  refine ZJ (fun n α bw => ∃ (ac : Int), ∃ (ar : List (List (Int))), ∃ (f47 : Fp), ZN (fun zz_ => Zad ae zz_.1 zz_.2) n (ac, ar) = some b7 /\ Has α [(1, pt_ aC 0), (3, i_ (ae.length : Int)), (4, .slice O Y U), (18, i_ ((List.replicate ae.length ([] : List (Int))).length : Int)), (19, i_ ac)] /\ FrS aO aU bw /\ Nst (CR.sl (Zal .u64) 1) bw (.slice O Y U) ar f47 /\ Inn aO aU f47) c7 ⟨0, (List.replicate ae.length ([] : List (Int))), aO, eH, ha_, (fr_ aj.wf), aI, ir_⟩ ?_
  rintro c7 α bw ⟨ac, ar, f47, eb, cH, aA, bY, aR⟩ h3 f4
  obtain ⟨gz, hR, rfl, be, cL⟩ := Zx eb
  obtain ⟨β, rfl⟩ := Zh cH
  clear cH
  replace be : Zad ae ac ar = some hR := be
  unfold Zad at be
  refine sq_ fun f5 => g_' (q_ (.bool (decide (ac < ((List.replicate ae.length ([] : List (Int))).length : Int)))) (Za (f5 _ _ (sq_ fun f7 => ?_))))
  refine wc_ (ac < ((List.replicate ae.length ([] : List (Int))).length : Int)) (fun bK => ?_) fun bK => ?_
  ·have hv := Ze bK be
   refine Zf (f7 _ _ (sq_ fun f9 => Zk (sq_ fun ga => g_' (q_ (i_ ac) (q_ (i_ ac) (Za (ga _ _ (sq_ fun gb => g_' (q_ (.slice O Y U) (q_ (i_ ac) (q_ (i_ (ae.length : Int)) ?_)))))))))))
   obtain ⟨co, hw⟩ := Zb hv
   refine Zkp (t := 36) (m := 8) (l := (ae.length : Int)) (c := (ae.length : Int)) (enc := (Zal .u64)) (sz := 1) aA.wf (0 : Int) (by kernel_rfl) (by decide) co.1 (Int.le_refl _) (by omega) (by have := co; omega) (by kernel_rfl) fun iC dU dk aN cr a8 => ?_
   obtain ⟨bx, b5, bz, rfl⟩ := a8.form
   have a8 : Ow (Zal .u64) 1 dk (.slice bx b5 bz) (List.replicate ae.length (0 : Int)) dU := a8
   obtain ⟨au, hx⟩ := Zb hw
   have di := (bY.ext aN)
   refine di.ix_ 49 au.1 au.2 ?_
   have dM := (cr.djn bY.lt)
   obtain ⟨bi, aH, gE, aw, bo, d6⟩ := Nst.store (P := Try.prog) (t := 36) (off := 0) aN.wf di au.1 au.2 (.slice bx b5 bz) [.slice bx b5 bz] (by kernel_rfl) (by kernel_rfl) rfl (List.replicate ae.length (0 : Int)) (Nat.le_of_ble_eq_true rfl) (Dj.symm dM) a8.lt (fun cs_ f_ hr_ _ => by obtain ⟨_, rfl, _⟩ := Za6 hr_; exact ⟨_, Zi0 a8, fun _ h => .inr h⟩)
   have bq := d6.grow2 (cr.fresh (Nat.le_refl _)) aN.n
   refine ek_ gE (Za (gb _ _ (sq_ fun gc => g_' (q_ (.slice O Y U) (q_ (i_ ac) ?_)))))
   obtain ⟨cp, hy⟩ := Zb hx
   refine bo.ix_ 49 au.1 cp ?_
   obtain ⟨ic, it, em, fa, ey, e1⟩ := bo.kid au.1 cp
   obtain ⟨hI, rfl, eR⟩ := Za6 em
   have cU : KdS (Zal .u64) 1 bi hI (gt (ar.set ac.toNat (List.replicate ae.length (0 : Int))) ac) aH (.slice O Y U) 1 ac.toNat 0 := ⟨eR.sq.up fa bo.lt, e1 0 _ rfl (by decide)⟩
   obtain ⟨dx, gh, dy, rfl⟩ := cU.sq.form
   refine l_' (.slice dx gh dy) (aL_ 36 (elp (.slice O Y U) 1 ac.toNat 0) bi) (ey _ _ _ _ (by kernel_rfl)) (cU.sq.ln_ 36 (q_ (i_ 0) (Za (gc _ _ ?_))))
   obtain ⟨b6, fb, gF⟩ := bs_ hy
   refine ZC (fun α br => Has α [(1, pt_ aC 0), (3, i_ (ae.length : Int)), (4, .slice O Y U), (18, i_ ((List.replicate ae.length ([] : List (Int))).length : Int)), (19, i_ ac)] /\ FrS aH bi br /\ Nst (CR.sl (Zal .u64) 1) br (.slice O Y U) b6 aH) (fun _ fj => ?_) (fun α br hM => ?_)
   ·refine Zk ?_
    obtain ⟨cY, eC⟩ := Zv.1 fb
    refine ZJ (fun n α aK => ∃ (ah : Int), ∃ (an : List (List (Int))), ZN (fun zz_ => Zaz ae ac ar zz_.1 zz_.2) n (ah, an) = some b6 /\ Has α [(1, pt_ aC 0), (3, i_ (ae.length : Int)), (4, .slice O Y U), (5, i_ ac), (18, i_ ((List.replicate ae.length ([] : List (Int))).length : Int)), (19, i_ ac), (31, i_ ((gt (ar.set ac.toNat (List.replicate ae.length (0 : Int))) ac).length : Int)), (32, i_ ah)] /\ FrS aH bi aK /\ Nst (CR.sl (Zal .u64) 1) aK (.slice O Y U) an aH) cY ⟨0, (ar.set ac.toNat (List.replicate ae.length (0 : Int))), eC, ha_, (fr_ aw.wf), bo⟩ ?_
    rintro cY α aK ⟨ah, an, d7, cv, aL, aS⟩ hX cO
    obtain ⟨cZ, hL, rfl, a_, bL⟩ := Zx d7
    obtain ⟨β, rfl⟩ := Zh cv
    clear cv
    replace a_ : Zaz ae ac ar ah an = some hL := a_
    unfold Zaz at a_
    refine sq_ fun fk => g_' (q_ (.bool (decide (ah < ((gt (ar.set ac.toNat (List.replicate ae.length (0 : Int))) ac).length : Int)))) (Za (fk _ _ (sq_ fun fm => ?_))))
    refine wc_ (ah < ((gt (ar.set ac.toNat (List.replicate ae.length (0 : Int))) ac).length : Int)) (fun bC => ?_) fun bC => ?_
    ·have gG := Ze bC a_
     refine Zf (fm _ _ (sq_ fun cP => Zk (sq_ fun fu => g_' (q_ (i_ ah) (q_ (i_ ah) (Za (fu _ _ (sq_ fun fv => ?_))))))))
     obtain ⟨c8, cN, da⟩ := bs_ gG
     refine ZC (fun α b_ => Has α [(1, pt_ aC 0), (3, i_ (ae.length : Int)), (4, .slice O Y U), (5, i_ ac), (6, i_ ah), (18, i_ ((List.replicate ae.length ([] : List (Int))).length : Int)), (19, i_ ac), (31, i_ ((gt (ar.set ac.toNat (List.replicate ae.length (0 : Int))) ac).length : Int)), (32, i_ ah), (45, .bool c8)] /\ aK = b_) (fun _ cQ => ?_) (fun α b_ hM => ?_)
     ·refine g_' (q_ (i_ ac) (q_ (i_ ah) ?_))
      refine Zjp (ac = ah) (by kernel_rfl) (fun bD => ?_) (fun bD => ?_)
      ·have gH := Ze bD cN
       refine q_ (.bool false) (q_ (pt_ aC 0) ?_)
       have cc := (aR.dj (aB.djn aF.ltF) (aF.ltF.le aj.n))
       have gi := (t_ aj.n aA.n)
       have dI := (bq.dj cc (aF.ltF.le gi))
       have hJ := (((((aF.ext aj).frS aA (aB.djn aF.ltF)).ext aN).frS aw cc).frS aL dI)
       refine lr_ 30 0 (a6) hJ (q_ (i_ ac) ?_)
       obtain ⟨ch, gI⟩ := Zb gH
       have cd := (aB.djn (a2.lt.le am.n))
       have gj := (t_ am.n aj.n)
       have ce := (aR.dj cd (a2.lt.le gj))
       have gk := (t_ (t_ am.n aj.n) aA.n)
       have dJ := (bq.dj ce (a2.lt.le gk))
       have df := (((((de.ext aj).fr aA cd).ext aN).fr aw ce).fr aL dJ)
       refine df.ix_ 30 au.1 ch (le_ 4 0 (.bool (gt ae ac)) df au.1 ch (q_ (.bool (!(gt ae ac))) (q_ (.bool (!(gt ae ac))) (Za ?_))))
       obtain rfl := oi_ gI
       exact cQ _ _ ⟨ha_, rfl⟩
      have gJ := Zi bD cN
      refine q_ (.bool true) (n_' (n_' (n_' (n_' (n_' (n_' (q_ (.bool true) (Za ?_))))))))
      obtain rfl := oi_ gJ
      exact cQ _ _ ⟨ha_, rfl⟩
     obtain ⟨cw, rfl⟩ := hM
     obtain ⟨β, rfl⟩ := Zh cw
     clear cw
     refine fv _ _ ?_
     refine wb_ (c8) (fun bE => ?_) fun bE => ?_
     ·have gK := Ze bE da
      refine g_' (q_ (.slice O Y U) (q_ (i_ ac) ?_))
      obtain ⟨aZ, gL⟩ := Zb gK
      refine aS.ix_ 49 au.1 aZ ?_
      obtain ⟨h4, ii, ec, e2, eo, eS⟩ := aS.kid au.1 aZ
      obtain ⟨hz, rfl, eI⟩ := Za6 ec
      have bN : KdS (Zal .u64) 1 aK hz (gt an ac) aH (.slice O Y U) 1 ac.toNat 0 := ⟨eI.sq.up e2 aS.lt, eS 0 _ rfl (by decide)⟩
      obtain ⟨dm, gl, dz, rfl⟩ := bN.sq.form
      refine l_' (.slice dm gl dz) (aL_ 36 (elp (.slice O Y U) 1 ac.toNat 0) aK) (eo _ _ _ _ (by kernel_rfl)) (q_ (i_ ah) ?_)
      obtain ⟨bk, gN⟩ := Zb gL
      refine bN.sq.ix_ 36 bk.1 bk.2 ?_
      obtain ⟨hS, gA, dO, ez, iy⟩ := Nst.inner ZfH (P := Try.prog) (t := 27) (o2 := 0) aL.wf aS au.1 aZ bN rfl bk.1 bk.2 (.int .u64 18446744073709551615) [.int .u64 18446744073709551615] (by kernel_rfl) (by kernel_rfl) rfl 18446744073709551615 (Nat.le_of_ble_eq_true rfl) (by kernel_rfl)
      have iu : ac < ((an.set ac.toNat ((gt an ac).set ah.toNat 18446744073709551615)).length : Int) := by rw [List.length_set]; exact aZ
      have ie : ((gt an ac).set ah.toNat 18446744073709551615) = (gt (an.set ac.toNat ((gt an ac).set ah.toNat 18446744073709551615)) ac) := (Ze2 au.1 aZ _).symm
      refine ek_ gA (Za (cP _ _ (g_' ?_)))
      obtain ⟨dX, gO⟩ := Zb gN
      refine w_' ((ah + 1)) (Zo (by have := dX; omega)) (q_ (i_ (ah + 1)) (Za ?_))
      obtain rfl := oi_ gO
      exact cO cZ _ _ lt_ ⟨(ah + 1), (an.set ac.toNat ((gt an ac).set ah.toNat 18446744073709551615)), bL, ha_, (fs_ aw.wf (fs_ aw.wf (fr_ aw.wf) aL ir_) dO ir_), ez⟩
     have gP := ZK bE da
     refine Zf (cP _ _ (g_' ?_))
     obtain ⟨dY, gQ⟩ := Zb gP
     refine w_' ((ah + 1)) (Zo dY) (q_ (i_ (ah + 1)) (Za ?_))
     obtain rfl := oi_ gQ
     exact cO cZ _ _ lt_ ⟨(ah + 1), an, bL, ha_, (fs_ aw.wf (fr_ aw.wf) aL ir_), aS⟩
    have gR := Zi bC a_
    refine ZL (Zj (Zj (ZV ?_)))
    obtain rfl := oi_ gR
    obtain rfl := ZG bL
    exact fj _ _ ⟨ha_, (fs_ aw.wf (fr_ aw.wf) aL ir_), aS⟩
   obtain ⟨cu, dN, gd⟩ := hM
   obtain ⟨β, rfl⟩ := Zh cu
   clear cu
   refine f9 _ _ (g_' ?_)
   obtain ⟨dZ, gS⟩ := Zb gF
   refine w_' ((ac + 1)) (Zo (by have := dZ; omega)) (q_ (i_ (ac + 1)) (Za ?_))
   obtain rfl := oi_ gS
   exact f4 gz _ _ lt_ ⟨(ac + 1), b6, aH, cL, ha_, (fs_ aj.wf (fs_ aj.wf ((fs_ aj.wf (fr_ aj.wf) aA ir_).extR aN) aw (Inn.trans ir_ (Nat.le_refl _) aR)) dN (Inn.trans (Inn.trans ir_ (Nat.le_refl _) aR) aA.n bq)), gd, (Inn.trans (Inn.trans ir_ (Nat.le_refl _) aR) aA.n bq)⟩
  have gT := Zi bK be
  refine ZL (Zj (Zj (ZV ?_)))
  obtain rfl := oi_ gT
  obtain rfl := ZG cL
  exact f2 _ _ ⟨f47, ha_, (fs_ aj.wf (fr_ aj.wf) aA ir_), bY, (Inn.trans ir_ (Nat.le_refl _) aR)⟩
 obtain ⟨af, cG, ay, cX, bp⟩ := hM
 obtain ⟨β, rfl⟩ := Zh cG
 clear cG
 refine fF _ _ (sq_ fun fx => sq_ fun fy => g_' (q_ (pt_ aC 1) ?_))
 have hK := ((aF.ext aj).frS ay (aB.djn aF.ltF))
 refine lr_ 31 1 (a7) hK ?_
 have cf := (aB.djn (bn.lt.le am.n))
 have dg := (((bn.ext am).ext aj).fr ay cf)
 refine dg.ln_ 31 (q_ (i_ 0) (Za (fy _ _ ?_)))
 obtain ⟨aq, fc, gU⟩ := bs_ g5
 refine ZC (fun α aT => Has α [(4, .slice O Y U)] /\ FrS af aX aT /\ Nst (CR.sl (Zal .u64) 1) aT (.slice O Y U) aq af) (fun _ fz => ?_) (fun α aT hM => ?_)
 ·refine Zk ?_
  obtain ⟨c0, eD⟩ := Zv.1 fc
  refine ZJ (fun n α bs => ∃ (ag : List (List (Int))), ∃ (e : Int), ZN (fun zz_ => Zac Arcs zz_.1 zz_.2) n (ag, e) = some aq /\ Has α [(4, .slice O Y U), (55, a7), (56, i_ (Arcs.length : Int)), (57, i_ e)] /\ FrS af aX bs /\ Nst (CR.sl (Zal .u64) 1) bs (.slice O Y U) ag af) c0 ⟨b7, 0, eD, ha_, (fr_ ay.wf), cX⟩ ?_
  rintro c0 α bs ⟨ag, e, d8, cy, aM, cW⟩ hY fA
  obtain ⟨gm, hN, rfl, ba, cI⟩ := Zx d8
  obtain ⟨β, rfl⟩ := Zh cy
  clear cy
  replace ba : Zac Arcs ag e = some hN := ba
  unfold Zac at ba
  refine sq_ fun fB => g_' (q_ (.bool (decide (e < (Arcs.length : Int)))) (Za (fB _ _ (sq_ fun fC => ?_))))
  refine wc_ (e < (Arcs.length : Int)) (fun a1 => ?_) fun a1 => ?_
  ·have gV := Ze a1 ba
   refine Zf (fC _ _ (sq_ fun fD => Zk (sq_ fun fE => g_' ?_)))
   obtain ⟨cj, gW⟩ := Zb gV
   have gn := (t_ am.n aj.n)
   have dK := (bp.dj cf (bn.lt.le gn))
   have dh := (dg.fr aM dK)
   refine dh.ix_ 31 cj a1 (le_ 73 0 (.agg #[i_ ((gt Arcs e).1), i_ ((gt Arcs e).2.1), .int .u64 ((gt Arcs e).2.2.1), i_ ((gt Arcs e).2.2.2)]) dh cj a1 ?_)
   refine rk_ aM.wf [i_ 0, i_ 0, .int .u64 0, i_ 0] fun aY hT bA cq gX => ?_
   obtain ⟨bh, gB, bB, bf⟩ := ra_ 73 0 bA.wf gX [i_ ((gt Arcs e).1), i_ ((gt Arcs e).2.1), .int .u64 ((gt Arcs e).2.2.1), i_ ((gt Arcs e).2.2.2)] [i_ ((gt Arcs e).1), i_ ((gt Arcs e).2.1), .int .u64 ((gt Arcs e).2.2.1), i_ ((gt Arcs e).2.2.2)]
   refine ek_ gB (Za (fE _ _ ?_))
   refine ZW [0, 1, 2, 3, 4, 5, 6, 7, 8, 9, 10, 11, 12, 13, 14, 15, 16, 17, 18, 19, 20] (by kernel_rfl) ?_
   refine e_' (.slice O Y U) (e_' (pt_ aY 0) (mr_ 3 0 (i_ ((gt Arcs e).1)) bf ?_))
   obtain ⟨ap, gY⟩ := Zb gW
   have dL := (cq.djn (cX.lt.le aM.n))
   have aJ := ((cW.ext bA).fr bB dL)
   refine aJ.mx_ 49 ap.1 ap.2 ?_
   obtain ⟨h5, ij, ed, e3, ep, eT⟩ := aJ.kid ap.1 ap.2
   obtain ⟨hA, rfl, eJ⟩ := Za6 ed
   have bO : KdS (Zal .u64) 1 bh hA (gt ag ((gt Arcs e).1)) af (.slice O Y U) 1 ((gt Arcs e).1).toNat 0 := ⟨eJ.sq.up e3 aJ.lt, eT 0 _ rfl (by decide)⟩
   obtain ⟨dn, go, dA, rfl⟩ := bO.sq.form
   refine m_' (.slice dn go dA) (aL_ 36 (elp (.slice O Y U) 1 ((gt Arcs e).1).toNat 0) bh) (ep _ _ _ _ (by kernel_rfl)) (e_' (pt_ aY 1) (mr_ 3 1 (i_ ((gt Arcs e).2.1)) bf (e_' (.slice O Y U) (e_' (pt_ aY 0) (mr_ 3 0 (i_ ((gt Arcs e).1)) bf (aJ.mx_ 49 ap.1 ap.2 ?_))))))
   obtain ⟨h6, ik, ee, e4, eq, eU⟩ := aJ.kid ap.1 ap.2
   obtain ⟨hB, rfl, eK⟩ := Za6 ee
   have bP : KdS (Zal .u64) 1 bh hB (gt ag ((gt Arcs e).1)) af (.slice O Y U) 1 ((gt Arcs e).1).toNat 0 := ⟨eK.sq.up e4 aJ.lt, eU 0 _ rfl (by decide)⟩
   obtain ⟨dp, gp, dB, rfl⟩ := bP.sq.form
   refine m_' (.slice dp gp dB) (aL_ 36 (elp (.slice O Y U) 1 ((gt Arcs e).1).toNat 0) bh) (eq _ _ _ _ (by kernel_rfl)) (e_' (pt_ aY 1) (mr_ 3 1 (i_ ((gt Arcs e).2.1)) bf ?_))
   obtain ⟨aE, gZ⟩ := Zb gY
   refine bP.sq.mx_ 36 aE.1 aE.2 (me_ 27 0 (.int .u64 (gt (gt ag ((gt Arcs e).1)) ((gt Arcs e).2.1))) bP.sq aE.1 aE.2 (e_' (pt_ aY 2) (mr_ 27 2 (.int .u64 ((gt Arcs e).2.2.1)) bf (m_' (.int .u64 (min (gt (gt ag ((gt Arcs e).1)) ((gt Arcs e).2.1)) ((gt Arcs e).2.2.1))) (Zfz Try.prog [.int .u64 (gt (gt ag ((gt Arcs e).1)) ((gt Arcs e).2.1)), .int .u64 ((gt Arcs e).2.2.1)]) (ZfN _ _) (bO.sq.mx_ 36 aE.1 aE.2 ?_)))))
   obtain ⟨hU, gC, dP, eA, iz⟩ := Nst.inner ZfH (P := Try.prog) (t := 27) (o2 := 0) bB.wf aJ ap.1 ap.2 bO rfl aE.1 aE.2 (.int .u64 (min (gt (gt ag ((gt Arcs e).1)) ((gt Arcs e).2.1)) ((gt Arcs e).2.2.1))) [.int .u64 (min (gt (gt ag ((gt Arcs e).1)) ((gt Arcs e).2.1)) ((gt Arcs e).2.2.1))] (by kernel_rfl) (by kernel_rfl) rfl (min (gt (gt ag ((gt Arcs e).1)) ((gt Arcs e).2.1)) ((gt Arcs e).2.2.1)) (Nat.le_of_ble_eq_true rfl) (by kernel_rfl)
   have iv : (gt Arcs e).1 < ((ag.set ((gt Arcs e).1).toNat ((gt ag ((gt Arcs e).1)).set ((gt Arcs e).2.1).toNat (min (gt (gt ag ((gt Arcs e).1)) ((gt Arcs e).2.1)) ((gt Arcs e).2.2.1)))).length : Int) := by rw [List.length_set]; exact ap.2
   have ig : ((gt ag ((gt Arcs e).1)).set ((gt Arcs e).2.1).toNat (min (gt (gt ag ((gt Arcs e).1)) ((gt Arcs e).2.1)) ((gt Arcs e).2.2.1))) = (gt (ag.set ((gt Arcs e).1).toNat ((gt ag ((gt Arcs e).1)).set ((gt Arcs e).2.1).toNat (min (gt (gt ag ((gt Arcs e).1)) ((gt Arcs e).2.1)) ((gt Arcs e).2.2.1)))) ((gt Arcs e).1)) := (Ze2 ap.1 ap.2 _).symm
   refine fk_ gC (ZS) ?_
   refine ZR ?_
   refine fD _ _ (g_' ?_)
   obtain ⟨d0, g0⟩ := Zb gZ
   refine w_' ((e + 1)) (Zo (by have := d0; omega)) (q_ (i_ (e + 1)) (Za ?_))
   obtain rfl := oi_ g0
   exact fA gm _ _ lt_ ⟨(ag.set ((gt Arcs e).1).toNat ((gt ag ((gt Arcs e).1)).set ((gt Arcs e).2.1).toNat (min (gt (gt ag ((gt Arcs e).1)) ((gt Arcs e).2.1)) ((gt Arcs e).2.2.1)))), (e + 1), cI, ha_, (fs_ ay.wf (fs_ ay.wf ((fs_ ay.wf (fr_ ay.wf) aM ir_).extR bA) bB (cq.fresh aM.n)) dP ir_), eA⟩
  have g1 := Zi a1 ba
  refine ZL (Zj (Zj (ZV ?_)))
  obtain rfl := oi_ g1
  obtain rfl := ZG cI
  exact fz _ _ ⟨ha_, (fs_ ay.wf (fr_ ay.wf) aM ir_), cW⟩
 obtain ⟨cx, aG, cV⟩ := hM
 obtain ⟨β, rfl⟩ := Zh cx
 clear cx
 refine fx _ _ (sq_ fun fG => sq_ fun fH => g_' (q_ (.slice O Y U) (cV.ln_ 49 (q_ (i_ 0) (Za (fH _ _ ?_))))))
 obtain ⟨c9, fd, g2⟩ := bs_ gU
 refine ZC (fun α bt => Has α [(4, .slice O Y U)] /\ FrS af aT bt /\ Nst (CR.sl (Zal .u64) 1) bt (.slice O Y U) c9 af) (fun _ fJ => ?_) (fun α bt hM => ?_)
 ·refine Zk ?_
  obtain ⟨c3, eE⟩ := Zv.1 fd
  refine ZJ (fun n α aV => ∃ (ao : List (List (Int))), ∃ (aa : Int), ZN (fun zz_ => Zax aq zz_.1 zz_.2) n (ao, aa) = some c9 /\ Has α [(4, .slice O Y U), (83, i_ (aq.length : Int)), (84, i_ aa)] /\ FrS af aT aV /\ Nst (CR.sl (Zal .u64) 1) aV (.slice O Y U) ao af) c3 ⟨aq, 0, eE, ha_, (fr_ aG.wf), cV⟩ ?_
  rintro c3 α aV ⟨ao, aa, d9, cA, aD, bW⟩ hZ fK
  obtain ⟨gq, hO, rfl, bb, cJ⟩ := Zx d9
  obtain ⟨β, rfl⟩ := Zh cA
  clear cA
  replace bb : Zax aq ao aa = some hO := bb
  unfold Zax at bb
  refine sq_ fun fL => g_' (q_ (.bool (decide (aa < (aq.length : Int)))) (Za (fL _ _ (sq_ fun fM => ?_))))
  refine wc_ (aa < (aq.length : Int)) (fun bF => ?_) fun bF => ?_
  ·have g3 := Ze bF bb
   refine Zf (fM _ _ (sq_ fun fN => Zk (sq_ fun fO => g_' (q_ (i_ aa) (q_ (i_ aa) (Za (fO _ _ (sq_ fun fP => g_' (q_ (.slice O Y U) (bW.ln_ 49 (q_ (i_ 0) (Za (fP _ _ ?_)))))))))))))
   obtain ⟨b8, ff, g4⟩ := bs_ g3
   refine ZC (fun α bu => Has α [(4, .slice O Y U), (83, i_ (aq.length : Int)), (84, i_ aa)] /\ FrS af aV bu /\ Nst (CR.sl (Zal .u64) 1) bu (.slice O Y U) b8 af) (fun _ fQ => ?_) (fun α bu hM => ?_)
   ·refine Zk ?_
    obtain ⟨c4, eF⟩ := Zv.1 ff
    refine ZJ (fun n α aW => ∃ (av : List (List (Int))), ∃ (V : Int), ZN (fun zz_ => Zay ao aa zz_.1 zz_.2) n (av, V) = some b8 /\ Has α [(4, .slice O Y U), (9, i_ aa), (83, i_ (aq.length : Int)), (84, i_ aa), (88, i_ (ao.length : Int)), (89, i_ V)] /\ FrS af aV aW /\ Nst (CR.sl (Zal .u64) 1) aW (.slice O Y U) av af) c4 ⟨ao, 0, eF, ha_, (fr_ aD.wf), bW⟩ ?_
    rintro c4 α aW ⟨av, V, d_, cC, ax, bX⟩ h1 fR
    obtain ⟨gr, hP, rfl, bc, cK⟩ := Zx d_
    obtain ⟨β, rfl⟩ := Zh cC
    clear cC
    replace bc : Zay ao aa av V = some hP := bc
    unfold Zay at bc
    refine sq_ fun fS => g_' (q_ (.bool (decide (V < (ao.length : Int)))) (Za (fS _ _ (sq_ fun fT => ?_))))
    refine wc_ (V < (ao.length : Int)) (fun bG => ?_) fun bG => ?_
    ·have g6 := Ze bG bc
     refine Zf (fT _ _ (sq_ fun fU => Zk (sq_ fun fV => g_' (q_ (i_ V) (q_ (i_ V) (Za (fV _ _ (sq_ fun fW => g_' (q_ (.slice O Y U) (bX.ln_ 49 (q_ (i_ 0) (Za (fW _ _ ?_)))))))))))))
     obtain ⟨b9, fg, g7⟩ := bs_ g6
     refine ZC (fun α bv => Has α [(4, .slice O Y U), (9, i_ aa), (83, i_ (aq.length : Int)), (84, i_ aa), (88, i_ (ao.length : Int)), (89, i_ V)] /\ FrS af aW bv /\ Nst (CR.sl (Zal .u64) 1) bv (.slice O Y U) b9 af) (fun _ fX => ?_) (fun α bv hM => ?_)
     ·refine Zk ?_
      obtain ⟨c5, eG⟩ := Zv.1 fg
      refine ZJ (fun n α al => ∃ (ab : List (List (Int))), ∃ (ad : Int), ZN (fun zz_ => Zab aa av V zz_.1 zz_.2) n (ab, ad) = some b9 /\ Has α [(4, .slice O Y U), (9, i_ aa), (10, i_ V), (83, i_ (aq.length : Int)), (84, i_ aa), (88, i_ (ao.length : Int)), (89, i_ V), (93, i_ (av.length : Int)), (94, i_ ad)] /\ FrS af aW al /\ Nst (CR.sl (Zal .u64) 1) al (.slice O Y U) ab af) c5 ⟨av, 0, eG, ha_, (fr_ ax.wf), bX⟩ ?_
      rintro c5 α al ⟨ab, ad, ea, cE, bj, ai⟩ h2 cR
      obtain ⟨c6, hQ, rfl, bd, bM⟩ := Zx ea
      obtain ⟨β, rfl⟩ := Zh cE
      clear cE
      replace bd : Zab aa av V ab ad = some hQ := bd
      unfold Zab at bd
      refine sq_ fun fY => g_' (q_ (.bool (decide (ad < (av.length : Int)))) (Za (fY _ _ (sq_ fun fZ => ?_))))
      refine wc_ (ad < (av.length : Int)) (fun bH => ?_) fun bH => ?_
      ·have g8 := Ze bH bd
       refine Zf (fZ _ _ (sq_ fun cS => Zk (sq_ fun f0 => g_' (q_ (i_ ad) (q_ (i_ ad) (Za (f0 _ _ (sq_ fun f1 => ?_))))))))
       obtain ⟨c_, fh, db⟩ := bs_ g8
       refine ZC (fun α ca => Has α [(4, .slice O Y U), (9, i_ aa), (10, i_ V), (11, i_ ad), (83, i_ (aq.length : Int)), (84, i_ aa), (88, i_ (ao.length : Int)), (89, i_ V), (93, i_ (av.length : Int)), (94, i_ ad), (114, .bool c_)] /\ al = ca) (fun _ cT => ?_) (fun α ca hM => ?_)
       ·refine g_' (q_ (.slice O Y U) (q_ (i_ V) ?_))
        obtain ⟨bl, g9⟩ := Zb fh
        refine ai.ix_ 49 bl.1 bl.2 ?_
        obtain ⟨h7, il, ef, e5, er, eV⟩ := ai.kid bl.1 bl.2
        obtain ⟨hC, rfl, eL⟩ := Za6 ef
        have bQ : KdS (Zal .u64) 1 al hC (gt ab V) af (.slice O Y U) 1 V.toNat 0 := ⟨eL.sq.up e5 ai.lt, eV 0 _ rfl (by decide)⟩
        obtain ⟨dq, gs, dC, rfl⟩ := bQ.sq.form
        refine l_' (.slice dq gs dC) (aL_ 36 (elp (.slice O Y U) 1 V.toNat 0) al) (er _ _ _ _ (by kernel_rfl)) (q_ (i_ aa) ?_)
        obtain ⟨aP, dc⟩ := Zb g9
        refine bQ.sq.ix_ 36 aP.1 aP.2 (le_ 27 0 (.int .u64 (gt (gt ab V) aa)) bQ.sq aP.1 aP.2 ?_)
        refine Zjp ((gt (gt ab V) aa) = 18446744073709551615) (by kernel_rfl) (fun bI => ?_) (fun bI => ?_)
        ·have g_ := Ze bI dc
         refine q_ (.bool false) (n_' (n_' (n_' (n_' (n_' (n_' (n_' (n_' (q_ (.bool false) (Za ?_))))))))))
         obtain rfl := oi_ g_
         exact cT _ _ ⟨ha_, rfl⟩
        have ha := Zi bI dc
        refine q_ (.bool true) (q_ (.slice O Y U) (q_ (i_ aa) ?_))
        obtain ⟨ck, hb⟩ := Zb ha
        refine ai.ix_ 49 aP.1 ck ?_
        obtain ⟨h8, im, eg, e6, es, eW⟩ := ai.kid aP.1 ck
        obtain ⟨hD, rfl, eM⟩ := Za6 eg
        have bR : KdS (Zal .u64) 1 al hD (gt ab aa) af (.slice O Y U) 1 aa.toNat 0 := ⟨eM.sq.up e6 ai.lt, eW 0 _ rfl (by decide)⟩
        obtain ⟨dr, gu, dD, rfl⟩ := bR.sq.form
        refine l_' (.slice dr gu dD) (aL_ 36 (elp (.slice O Y U) 1 aa.toNat 0) al) (es _ _ _ _ (by kernel_rfl)) (q_ (i_ ad) ?_)
        obtain ⟨bm, hc⟩ := Zb hb
        refine bR.sq.ix_ 36 bm.1 bm.2 (le_ 27 0 (.int .u64 (gt (gt ab aa) ad)) bR.sq bm.1 bm.2 (q_ (.bool (!decide ((gt (gt ab aa) ad) = 18446744073709551615))) (q_ (.bool (!decide ((gt (gt ab aa) ad) = 18446744073709551615))) (Za ?_))))
        obtain rfl := oi_ hc
        exact cT _ _ ⟨ha_, rfl⟩
       obtain ⟨cF, rfl⟩ := hM
       obtain ⟨β, rfl⟩ := Zh cF
       clear cF
       refine f1 _ _ ?_
       refine wb_ (c_) (fun bJ => ?_) fun bJ => ?_
       ·have hd := Ze bJ db
        refine ZW [0, 1, 2, 3, 4, 5, 6, 7, 8, 9, 10, 11, 12, 13, 14, 15, 16, 17, 18, 19, 20, 21, 22, 23, 24, 25, 26, 27, 28, 29] (by kernel_rfl) ?_
        refine e_' (.slice O Y U) (e_' (i_ V) ?_)
        obtain ⟨ak, he⟩ := Zb hd
        refine ai.mx_ 49 ak.1 ak.2 ?_
        obtain ⟨h9, io, eh, e7, et, eX⟩ := ai.kid ak.1 ak.2
        obtain ⟨hE, rfl, eN⟩ := Za6 eh
        have bS : KdS (Zal .u64) 1 al hE (gt ab V) af (.slice O Y U) 1 V.toNat 0 := ⟨eN.sq.up e7 ai.lt, eX 0 _ rfl (by decide)⟩
        obtain ⟨dt, gv, dE, rfl⟩ := bS.sq.form
        refine m_' (.slice dt gv dE) (aL_ 36 (elp (.slice O Y U) 1 V.toNat 0) al) (et _ _ _ _ (by kernel_rfl)) (e_' (i_ ad) (e_' (.slice O Y U) (e_' (i_ V) (ai.mx_ 49 ak.1 ak.2 ?_))))
        obtain ⟨h_, ip, ej, e8, eu, eY⟩ := ai.kid ak.1 ak.2
        obtain ⟨hF, rfl, eO⟩ := Za6 ej
        have bT : KdS (Zal .u64) 1 al hF (gt ab V) af (.slice O Y U) 1 V.toNat 0 := ⟨eO.sq.up e8 ai.lt, eY 0 _ rfl (by decide)⟩
        obtain ⟨du, gw, dF, rfl⟩ := bT.sq.form
        refine m_' (.slice du gw dF) (aL_ 36 (elp (.slice O Y U) 1 V.toNat 0) al) (eu _ _ _ _ (by kernel_rfl)) (e_' (i_ ad) ?_)
        obtain ⟨az, hf⟩ := Zb he
        refine bT.sq.mx_ 36 az.1 az.2 (me_ 27 0 (.int .u64 (gt (gt ab V) ad)) bT.sq az.1 az.2 (e_' (.slice O Y U) (e_' (i_ V) (ai.mx_ 49 ak.1 ak.2 ?_))))
        obtain ⟨ia, iq, ek, e9, ew, eZ⟩ := ai.kid ak.1 ak.2
        obtain ⟨hG, rfl, eP⟩ := Za6 ek
        have bU : KdS (Zal .u64) 1 al hG (gt ab V) af (.slice O Y U) 1 V.toNat 0 := ⟨eP.sq.up e9 ai.lt, eZ 0 _ rfl (by decide)⟩
        obtain ⟨dv, gx, dG, rfl⟩ := bU.sq.form
        refine m_' (.slice dv gx dG) (aL_ 36 (elp (.slice O Y U) 1 V.toNat 0) al) (ew _ _ _ _ (by kernel_rfl)) (e_' (i_ aa) ?_)
        obtain ⟨aQ, hg⟩ := Zb hf
        refine bU.sq.mx_ 36 aQ.1 aQ.2 (me_ 27 0 (.int .u64 (gt (gt ab V) aa)) bU.sq aQ.1 aQ.2 (e_' (.slice O Y U) (e_' (i_ aa) ?_)))
        obtain ⟨cm, hh⟩ := Zb hg
        refine ai.mx_ 49 aQ.1 cm ?_
        obtain ⟨ib, ir, el, e_, ex, e0⟩ := ai.kid aQ.1 cm
        obtain ⟨hH, rfl, eQ⟩ := Za6 el
        have bV : KdS (Zal .u64) 1 al hH (gt ab aa) af (.slice O Y U) 1 aa.toNat 0 := ⟨eQ.sq.up e_ ai.lt, e0 0 _ rfl (by decide)⟩
        obtain ⟨dw, gy, dH, rfl⟩ := bV.sq.form
        refine m_' (.slice dw gy dH) (aL_ 36 (elp (.slice O Y U) 1 aa.toNat 0) al) (ex _ _ _ _ (by kernel_rfl)) (e_' (i_ ad) ?_)
        obtain ⟨cn, hj⟩ := Zb hh
        refine bV.sq.mx_ 36 az.1 cn (me_ 27 0 (.int .u64 (gt (gt ab aa) ad)) bV.sq az.1 cn ?_)
        obtain ⟨d1, hk⟩ := Zb hj
        refine d_w (((gt (gt ab V) aa) + (gt (gt ab aa) ad))) (k := .u64) (x := ((gt (gt ab V) aa) + (gt (gt ab aa) ad))) (by kernel_rfl) (Zdr d1) ?_
        refine m_' (.int .u64 (min (gt (gt ab V) ad) ((gt (gt ab V) aa) + (gt (gt ab aa) ad)))) (Zfz Try.prog [.int .u64 (gt (gt ab V) ad), .int .u64 ((gt (gt ab V) aa) + (gt (gt ab aa) ad))]) (ZfN _ _) (bS.sq.mx_ 36 az.1 az.2 ?_)
        obtain ⟨hV, gD, dT, eB, iA⟩ := Nst.inner ZfH (P := Try.prog) (t := 27) (o2 := 0) bj.wf ai ak.1 ak.2 bS rfl az.1 az.2 (.int .u64 (min (gt (gt ab V) ad) ((gt (gt ab V) aa) + (gt (gt ab aa) ad)))) [.int .u64 (min (gt (gt ab V) ad) ((gt (gt ab V) aa) + (gt (gt ab aa) ad)))] (by kernel_rfl) (by kernel_rfl) rfl (min (gt (gt ab V) ad) ((gt (gt ab V) aa) + (gt (gt ab aa) ad))) (Nat.le_of_ble_eq_true rfl) (by kernel_rfl)
        have iw : V < ((ab.set V.toNat ((gt ab V).set ad.toNat (min (gt (gt ab V) ad) ((gt (gt ab V) aa) + (gt (gt ab aa) ad))))).length : Int) := by rw [List.length_set]; exact ak.2
        have ih : ((gt ab V).set ad.toNat (min (gt (gt ab V) ad) ((gt (gt ab V) aa) + (gt (gt ab aa) ad)))) = (gt (ab.set V.toNat ((gt ab V).set ad.toNat (min (gt (gt ab V) ad) ((gt (gt ab V) aa) + (gt (gt ab aa) ad))))) V) := (Ze2 ak.1 ak.2 _).symm
        refine fk_ gD (ZS) ?_
        refine ZR ?_
        refine cS _ _ (g_' ?_)
        obtain ⟨d2, hl⟩ := Zb hk
        refine w_' ((ad + 1)) (Zo (by have := d2; omega)) (q_ (i_ (ad + 1)) (Za ?_))
        obtain rfl := oi_ hl
        exact cR c6 _ _ lt_ ⟨(ab.set V.toNat ((gt ab V).set ad.toNat (min (gt (gt ab V) ad) ((gt (gt ab V) aa) + (gt (gt ab aa) ad))))), (ad + 1), bM, ha_, (fs_ ax.wf (fs_ ax.wf (fr_ ax.wf) bj ir_) dT ir_), eB⟩
       have hm := ZK bJ db
       refine Zf (cS _ _ (g_' ?_))
       obtain ⟨d3, hn⟩ := Zb hm
       refine w_' ((ad + 1)) (Zo d3) (q_ (i_ (ad + 1)) (Za ?_))
       obtain rfl := oi_ hn
       exact cR c6 _ _ lt_ ⟨ab, (ad + 1), bM, ha_, (fs_ ax.wf (fr_ ax.wf) bj ir_), ai⟩
      have ho := Zi bH bd
      refine ZL (Zj (Zj (ZV ?_)))
      obtain rfl := oi_ ho
      obtain rfl := ZG bM
      exact fX _ _ ⟨ha_, (fs_ ax.wf (fr_ ax.wf) bj ir_), ai⟩
     obtain ⟨cD, dS, gg⟩ := hM
     obtain ⟨β, rfl⟩ := Zh cD
     clear cD
     refine fU _ _ (g_' ?_)
     obtain ⟨d4, hq⟩ := Zb g7
     refine w_' ((V + 1)) (Zo d4) (q_ (i_ (V + 1)) (Za ?_))
     obtain rfl := oi_ hq
     exact fR gr _ _ lt_ ⟨b9, (V + 1), cK, ha_, (fs_ aD.wf (fs_ aD.wf (fr_ aD.wf) ax ir_) dS ir_), gg⟩
    have hr := Zi bG bc
    refine ZL (Zj (Zj (ZV ?_)))
    obtain rfl := oi_ hr
    obtain rfl := ZG cK
    exact fQ _ _ ⟨ha_, (fs_ aD.wf (fr_ aD.wf) ax ir_), bX⟩
   obtain ⟨cB, dR, gf⟩ := hM
   obtain ⟨β, rfl⟩ := Zh cB
   clear cB
   refine fN _ _ (g_' ?_)
   obtain ⟨d5, ht⟩ := Zb g4
   refine w_' ((aa + 1)) (Zo d5) (q_ (i_ (aa + 1)) (Za ?_))
   obtain rfl := oi_ ht
   exact fK gq _ _ lt_ ⟨b8, (aa + 1), cJ, ha_, (fs_ aG.wf (fs_ aG.wf (fr_ aG.wf) aD ir_) dR ir_), gf⟩
  have hu := Zi bF bb
  refine ZL (Zj (Zj (ZV ?_)))
  obtain rfl := oi_ hu
  obtain rfl := ZG cJ
  exact fJ _ _ ⟨ha_, (fs_ aG.wf (fr_ aG.wf) aD ir_), bW⟩
 obtain ⟨cz, dQ, ge⟩ := hM
 obtain ⟨β, rfl⟩ := Zh cz
 clear cz
 refine fG _ _ (sq_ fun f3 => g_' (q_ (.slice O Y U) (q_ (.slice O Y U) (Za (f3 _ _ ?_)))))
 refine Zg ?_
 refine br_ [.slice O Y U] ?_
 have bZ := (t_ am.n aj.n)
 obtain rfl := oi_ g2
 exact ⟨(.slice O Y U), af, rfl, (fs_ bg (fs_ bg (fs_ bg (((f0_ bg).extR am).extR aj) ay (aB.fresh am.n)) aG (Inn.trans (aB.fresh am.n) bZ bp)) dQ (Inn.trans (aB.fresh am.n) bZ bp)), ge, (Inn.trans (aB.fresh am.n) bZ bp)⟩
theorem Zei {H : AH} {V : Value} {a8 : Fp} {l : List (Int × Int × Int)} {O : Int} {af : Int} {ae : Int} {r : List (Int × Int × Int)}
    (ah : WF H) (ax : Sq Zc 3 H V l a8) (aM : Zbe l O af ae = some r) :
    ACalls Try.prog 43 #[V, .agg #[i_ O, .int .u64 af, i_ ae]] H fun v H' => ∃ (aV : Value) (aE : Fp), v = aV /\ FrS [] H H' /\ Ow Zc 3 H' aV r aE /\ Inn [] H aE := by
 refine ab_ Try.func43 ?_
 unfold Zbe at aM
 refine sq_ fun bn => g_' ?_
 refine rl_ ah [i_ O, .int .u64 af, i_ ae] fun aq aD U bY aT => ?_
 refine q_ (.slice none 0 0) (Za (bn _ _ (sq_ fun bh => g_' (q_ (i_ 0) (Za (bh _ _ (sq_ fun bi => ?_)))))))
 obtain ⟨Y, bg, bB⟩ := bs_ aM
 refine ZC (fun α aB => Has α [(0, V), (3, pt_ aq 0), (5, i_ Y)] /\ aD = aB) (fun _ aP => ?_) (fun α aB hM => ?_)
 ·refine Zk ?_
  obtain ⟨aS, bf⟩ := Zv.1 bg
  refine ZJ (fun n α aC => ∃ (e : Int), ZN (fun zz_ => Zbr l O zz_) n e = some Y /\ Has α [(0, V), (3, pt_ aq 0), (5, i_ e)] /\ aD = aC) aS ⟨0, bf, ha_, rfl⟩ ?_
  rintro aS α aC ⟨e, be, aH, rfl⟩ bS bj
  obtain ⟨bs, bN, rfl, ag, ay⟩ := Zx be
  obtain ⟨β, rfl⟩ := Zh aH
  clear aH
  replace ag : Zbr l O e = some bN := ag
  unfold Zbr at ag
  refine sq_ fun bk => sq_ fun aQ => ?_
  refine ZW [0, 1, 2, 3, 4, 5, 6, 7, 8, 9, 10, 11, 12, 13] (by kernel_rfl) ?_
  refine e_' (i_ e) (e_' (V) ?_)
  have an := (ax.ext U)
  refine an.mn_ 53 ?_
  refine db_ (e < (l.length : Int)) (fun ad => ?_) fun ad => ?_
  ·have bC := Ze ad ag
   refine e_' (.bool true) (e_' (V) (e_' (i_ e) ?_))
   obtain ⟨av, aU⟩ := Zb bC
   refine an.mx_ 53 av ad (m_' (elp V 3 e.toNat 0) (ZA Try.prog 56 (elp V 3 e.toNat 0) 0) (Sq.fldq (d := 0) an av ad (by kernel_rfl)) (me_ 3 0 (i_ ((gt l e).1)) an av ad (e_' (pt_ aq 0) (mr_ 3 0 (i_ O) aT (e_' (.bool (decide (((gt l e).1) < O))) (e_' (.bool (decide (((gt l e).1) < O))) ?_))))))
   refine ZR ?_
   refine aQ _ _ ?_
   refine wc_ (((gt l e).1) < O) (fun aw => ?_) fun aw => ?_
   ·have bD := Ze aw aU
    refine Zf (bk _ _ (Zk (g_' (q_ (i_ e) ?_))))
    obtain ⟨ba, bE⟩ := Zb bD
    refine w_' ((e + 1)) (Zo (by have := ba; omega)) (q_ (i_ (e + 1)) (Za ?_))
    obtain rfl := oi_ bE
    exact bj bs _ _ lt_ ⟨(e + 1), ay, ha_, rfl⟩
   have bF := Zi aw aU
   refine ZL (Zj (Zj (ZV ?_)))
   obtain rfl := oi_ bF
   obtain rfl := ZG ay
   exact aP _ _ ⟨ha_, rfl⟩
  have bG := Zi ad ag
  refine e_' (.bool false) (j_' (j_' (j_' (j_' (j_' (j_' (j_' (j_' (e_' (.bool false) ?_)))))))))
  refine ZR ?_
  refine aQ _ _ ?_
  refine wb_ false (fun h => by cases h) fun _ => ?_
  refine ZL (Zj (Zj (ZV ?_)))
  obtain rfl := oi_ bG
  obtain rfl := ZG ay
  exact aP _ _ ⟨ha_, rfl⟩
 obtain ⟨aG, rfl⟩ := hM
 obtain ⟨β, rfl⟩ := Zh aG
 clear aG
 refine bi _ _ (sq_ fun bl => g_' (q_ (.slice none 0 0) (Za (bl _ _ (sq_ fun bm => g_' (q_ (.slice none 0 0) (q_ (V) (q_ (i_ Y) ?_))))))))
 obtain ⟨ac, bH⟩ := Zb bB
 have aW := (ax.ext U)
 obtain ⟨b7, bv, aO⟩ := Sq.cut (P := Try.prog) aW (t := 53) (by kernel_rfl) (lo := none) (hi := (some (i_ Y))) (l := 0) (r := Y.toNat) (rfl) (Zcp _ (by have := ac; omega)) (by have := ac; omega) (by have := ac; omega)
 obtain ⟨aY, bt, a1, rfl⟩ := aO.form
 refine Zba (.slice aY bt a1) (by kernel_rfl) bv ?_
 obtain ⟨bb, bI⟩ := Zb bH
 obtain ⟨b8, bP, bV, bw, aa, aJ, al⟩ := Ow.append (P := Try.prog) 24 U.wf (Ow.nil (enc := Zc) (sz := 3) (by decide)) aO (fun _ _ => rfl) (at_ := #[53, 53]) rfl rfl (by kernel_rfl) (by kernel_rfl) (by decide) (by have := bb; first | omega | (simp only [List.length_cons, List.length_nil] at this ⊢; omega) | (simp at this ⊢; omega))
 obtain ⟨ao, az, ar, rfl⟩ := aJ.form
 refine ZaY (.slice ao az ar) (by kernel_rfl) (bw) ?_
 refine q_ (.slice ao az ar) (Za (bm _ _ (sq_ fun bo => g_' (q_ (.slice ao az ar) ?_))))
 have bL := (aT.frS aa dn_)
 refine lr_ 56 0 (.agg #[i_ O, .int .u64 af, i_ ae]) bL ?_
 refine Zb9 (enc := Zc) (sz := 3) aa.wf [(O, af, ae)] 1 (by decide) (fun _ _ => rfl) (fun _ _ => rfl) rfl (by kernel_rfl) fun b9 bW bQ ab bZ aK => ?_
 obtain ⟨bT, b5, bU, rfl⟩ := aK.form
 have bM := (aJ.ext ab)
 obtain ⟨bc, bJ⟩ := Zb bI
 obtain ⟨b_, bR, bX, bx, ak, aL, aF⟩ := Ow.append (P := Try.prog) 24 ab.wf bM aK.sq (fun _ _ => rfl) (at_ := #[53, 53]) rfl rfl (by kernel_rfl) (by kernel_rfl) (by decide) (by have := bc; first | omega | (simp only [List.length_cons, List.length_nil] at this ⊢; omega) | (simp at this ⊢; omega))
 obtain ⟨ap, aA, au, rfl⟩ := aL.form
 refine ZaY (.slice ap aA au) (by kernel_rfl) (bx) ?_
 refine q_ (.slice ap aA au) (Za (bo _ _ (sq_ fun bp => g_' (q_ (.slice ap aA au) (q_ (V) (q_ (i_ Y) ?_))))))
 have a2 := (al.djn (ax.lt.le U.n))
 have bK := (((aW.fr aa dn_).ext ab).fr ak a2)
 obtain ⟨ca, bz, aN⟩ := Sq.cut (P := Try.prog) bK (t := 53) (by kernel_rfl) (lo := (some (i_ Y))) (hi := none) (l := Y.toNat) (r := l.length) (Zcp _ (by have := ac; omega)) (rfl) (by have := ac; omega) (by have := ac; omega)
 obtain ⟨aX, bq, aZ, rfl⟩ := aN.form
 refine Zba (.slice aX bq aZ) (by kernel_rfl) bz ?_
 obtain ⟨a_, bA⟩ := Zb bJ
 obtain ⟨b6, bO, a7, bu, a6, aI, bd⟩ := Ow.append (P := Try.prog) 24 ak.wf aL aN (fun _ _ => rfl) (at_ := #[53, 53]) rfl rfl (by kernel_rfl) (by kernel_rfl) (by decide) (by have := a_; first | omega | (simp only [List.length_cons, List.length_nil] at this ⊢; omega) | (simp at this ⊢; omega))
 obtain ⟨ai, am, aj, rfl⟩ := aI.form
 refine ZaY (.slice ai am aj) (by kernel_rfl) (bu) ?_
 refine q_ (.slice ai am aj) (Za (bp _ _ ?_))
 refine Zg ?_
 refine br_ [.slice ai am aj] ?_
 have aR := (t_ (t_ U.n aa.n) ab.n)
 have br := (t_ (t_ (t_ U.n aa.n) ab.n) ak.n)
 obtain rfl := oi_ bA
 exact ⟨(.slice ai am aj), a7, rfl, (fs_ ah (fs_ ah ((fs_ ah ((f0_ ah).extR U) aa in_).extR ab) ak (al.fresh U.n)) a6 (Inn.trans (al.fresh U.n) aR aF)), aI, (Inn.trans (Inn.trans (al.fresh U.n) aR aF) br bd)⟩
theorem ZgN {H : AH} {au : Value} {a1 : Fp} {ae : Value} {a2 : Fp} {aA : List (Bool)} {Arcs : List (Int × Int × Int × Int)} {V : Int} {r : List (Int × Int × Int)}
    (az : WF H) (a8 : Sq Zc2 1 H au aA a1) (aF : Sq Zr 4 H ae Arcs a2) (aI : Zcl aA Arcs V = some r) :
    ACalls Try.prog 16 #[.agg #[au, ae], i_ V] H fun v H' => ∃ (aT : Value) (aD : Fp), v = aT /\ FrS [] H H' /\ Ow Zc 3 H' aT r aD /\ Inn [] H aD := by
 refine ab_ Try.func16 ?_
 unfold Zcl at aI
 refine sq_ fun bm => g_' ?_
 refine ZbJ az [au, ae] (Zy (a8.one1) (Zy (aF.one1) (Zau))) (by kernel_rfl) fun aW ah O bK br => ?_
 refine q_ (.slice none 0 0) (Za (bm _ _ (sq_ fun bf => g_' (q_ (.slice none 0 0) (Za (bf _ _ (sq_ fun bg => sq_ fun bh => g_' (q_ (pt_ aW 1) (lr_ 31 1 (ae) br ?_)))))))))
 have aU := (aF.ext O)
 refine aU.ln_ 31 (q_ (i_ 0) (Za (bh _ _ ?_)))
 obtain ⟨aR, bb, bs⟩ := bs_ aI
 refine ZC (fun α ao => ∃ (ax : Value) (f25 : Fp), Has α [(5, ax)] /\ FrS [] ah ao /\ Ow Zc 3 ao ax aR f25 /\ Inn [] ah f25) (fun _ bi => ?_) (fun α ao hM => ?_)
 ·refine Zk ?_
  obtain ⟨aO, ba⟩ := Zv.1 bb
  refine ZJ (fun n α ap => ∃ (e : Int), ∃ (ag : List (Int × Int × Int)), ∃ (ay : Value), ∃ (ac : Fp), ZN (fun zz_ => ZbB Arcs V zz_.1 zz_.2) n (e, ag) = some aR /\ Has α [(1, i_ V), (5, ay), (9, ae), (10, i_ (Arcs.length : Int)), (11, i_ e)] /\ FrS [] ah ap /\ Ow Zc 3 ap ay ag ac /\ Inn [] ah ac) aO ⟨0, [], (.slice none 0 0), [], ba, ha_, (fr_ O.wf), (Ow.nil (by decide)), in_⟩ ?_
  rintro aO α ap ⟨e, ag, ay, ac, a_, aH, U, ab, aJ⟩ bJ aK
  obtain ⟨aP, bF, rfl, af, av⟩ := Zx a_
  obtain ⟨β, rfl⟩ := Zh aH
  clear aH
  replace af : ZbB Arcs V e ag = some bF := af
  unfold ZbB at af
  obtain ⟨a45, aw, aq, rfl⟩ := ab.form
  refine sq_ fun bj => g_' (q_ (.bool (decide (e < (Arcs.length : Int)))) (Za (bj _ _ (sq_ fun bk => ?_))))
  refine wc_ (e < (Arcs.length : Int)) (fun ad => ?_) fun ad => ?_
  ·have bt := Ze ad af
   refine Zf (bk _ _ (sq_ fun aL => Zk (sq_ fun bl => g_' ?_)))
   obtain ⟨aE, aS⟩ := Zb bt
   have aV := (aU.fr U dn_)
   refine aV.ix_ 31 aE ad (le_ 73 0 (.agg #[i_ ((gt Arcs e).1), i_ ((gt Arcs e).2.1), .int .u64 ((gt Arcs e).2.2.1), i_ ((gt Arcs e).2.2.2)]) aV aE ad ?_)
   refine rk_ U.wf [i_ 0, i_ 0, .int .u64 0, i_ 0] fun aj bG Y al bu => ?_
   obtain ⟨bH, bq, aa, an⟩ := ra_ 73 0 Y.wf bu [i_ ((gt Arcs e).1), i_ ((gt Arcs e).2.1), .int .u64 ((gt Arcs e).2.2.1), i_ ((gt Arcs e).2.2.2)] [i_ ((gt Arcs e).1), i_ ((gt Arcs e).2.1), .int .u64 ((gt Arcs e).2.2.1), i_ ((gt Arcs e).2.2.2)]
   refine ek_ bq (Za (bl _ _ (sq_ fun bn => g_' (q_ (pt_ aj 1) (lr_ 3 1 (i_ ((gt Arcs e).2.1)) an (q_ (i_ V) (q_ (.bool (decide (((gt Arcs e).2.1) = V))) (Za (bn _ _ ?_)))))))))
   refine wc_ (((gt Arcs e).2.1) = V) (fun ar => ?_) fun ar => ?_
   ·have bv := Ze ar aS
    refine g_' (q_ (.slice a45 aw aq) (q_ (pt_ aj 0) (lr_ 3 0 (i_ ((gt Arcs e).1)) an (q_ (pt_ aj 2) (lr_ 27 2 (.int .u64 ((gt Arcs e).2.2.1)) an (q_ (pt_ aj 3) (lr_ 3 3 (i_ ((gt Arcs e).2.2.2)) an (q_ (.agg #[i_ ((gt Arcs e).1), .int .u64 ((gt Arcs e).2.2.1), i_ ((gt Arcs e).2.2.2)]) ?_))))))))
    have bC := ((ab.ext Y).fr aa (al.djn ab.lt))
    obtain ⟨bE, bc, bw⟩ := bs_ bv
    refine ck_ (Zei aa.wf bC.sq bc) ?_
    rintro bL bI ⟨_, aZ, rfl, aY, aN, be⟩
    obtain ⟨aB, aQ, aC, rfl⟩ := aN.form
    refine q_ (.slice aB aQ aC) (Za (aL _ _ (g_' ?_)))
    obtain ⟨a6, bx⟩ := Zb bw
    refine w_' ((e + 1)) (Zo (by have := a6; omega)) (q_ (i_ (e + 1)) (Za ?_))
    have bp := (t_ (t_ U.n Y.n) aa.n)
    obtain rfl := oi_ bx
    exact aK aP _ _ lt_ ⟨(e + 1), bE, (.slice aB aQ aC), aZ, av, ha_, (fs_ O.wf (fs_ O.wf ((fs_ O.wf (fr_ O.wf) U in_).extR Y) aa (al.fresh U.n)) aY in_), aN, (be.fresh bp)⟩
   have bz := Zi ar aS
   refine Zf (aL _ _ (g_' ?_))
   obtain ⟨a7, bA⟩ := Zb bz
   refine w_' ((e + 1)) (Zo (by have := a7; omega)) (q_ (i_ (e + 1)) (Za ?_))
   have bD := ((ab.ext Y).fr aa (al.djn ab.lt))
   obtain rfl := oi_ bA
   exact aK aP _ _ lt_ ⟨(e + 1), ag, (.slice a45 aw aq), ac, av, ha_, (fs_ O.wf ((fs_ O.wf (fr_ O.wf) U in_).extR Y) aa (al.fresh U.n)), bD, (aJ.fresh (Nat.le_refl _))⟩
  have bB := Zi ad af
  refine ZL (Zj (Zj (ZV ?_)))
  obtain rfl := oi_ bB
  obtain rfl := ZG av
  exact bi _ _ ⟨(.slice a45 aw aq), ac, ha_, (fs_ O.wf (fr_ O.wf) U in_), ab, (aJ.fresh (Nat.le_refl _))⟩
 obtain ⟨ax, f25, aG, aX, aM, bd⟩ := hM
 obtain ⟨β, rfl⟩ := Zh aG
 clear aG
 obtain ⟨ai, am, ak, rfl⟩ := aM.form
 refine bg _ _ (sq_ fun bo => g_' (q_ (.slice ai am ak) (q_ (.slice ai am ak) (Za (bo _ _ ?_)))))
 refine Zg ?_
 refine br_ [.slice ai am ak] ?_
 obtain rfl := oi_ bs
 exact ⟨(.slice ai am ak), f25, rfl, (fs_ az ((f0_ az).extR O) aX in_), aM, (bd.fresh O.n)⟩
theorem Zgk {H : AH} {au : Value} {a1 : Fp} {ae : Value} {a2 : Fp} {aA : List (Bool)} {Arcs : List (Int × Int × Int × Int)} {V : Int} {r : List (Int × Int × Int)}
    (az : WF H) (a8 : Sq Zc2 1 H au aA a1) (aF : Sq Zr 4 H ae Arcs a2) (aI : Zb2 aA Arcs V = some r) :
    ACalls Try.prog 17 #[.agg #[au, ae], i_ V] H fun v H' => ∃ (aT : Value) (aD : Fp), v = aT /\ FrS [] H H' /\ Ow Zc 3 H' aT r aD /\ Inn [] H aD := by
 refine ab_ Try.func17 ?_
 unfold Zb2 at aI
 refine sq_ fun bm => g_' ?_
 refine ZbJ az [au, ae] (Zy (a8.one1) (Zy (aF.one1) (Zau))) (by kernel_rfl) fun aW ah O bK br => ?_
 refine q_ (.slice none 0 0) (Za (bm _ _ (sq_ fun bf => g_' (q_ (.slice none 0 0) (Za (bf _ _ (sq_ fun bg => sq_ fun bh => g_' (q_ (pt_ aW 1) (lr_ 31 1 (ae) br ?_)))))))))
 have aU := (aF.ext O)
 refine aU.ln_ 31 (q_ (i_ 0) (Za (bh _ _ ?_)))
 obtain ⟨aR, bb, bs⟩ := bs_ aI
 refine ZC (fun α ao => ∃ (ax : Value) (f25 : Fp), Has α [(5, ax)] /\ FrS [] ah ao /\ Ow Zc 3 ao ax aR f25 /\ Inn [] ah f25) (fun _ bi => ?_) (fun α ao hM => ?_)
 ·refine Zk ?_
  obtain ⟨aO, ba⟩ := Zv.1 bb
  refine ZJ (fun n α ap => ∃ (e : Int), ∃ (ag : List (Int × Int × Int)), ∃ (ay : Value), ∃ (ac : Fp), ZN (fun zz_ => Zbp Arcs V zz_.1 zz_.2) n (e, ag) = some aR /\ Has α [(1, i_ V), (5, ay), (9, ae), (10, i_ (Arcs.length : Int)), (11, i_ e)] /\ FrS [] ah ap /\ Ow Zc 3 ap ay ag ac /\ Inn [] ah ac) aO ⟨0, [], (.slice none 0 0), [], ba, ha_, (fr_ O.wf), (Ow.nil (by decide)), in_⟩ ?_
  rintro aO α ap ⟨e, ag, ay, ac, a_, aH, U, ab, aJ⟩ bJ aK
  obtain ⟨aP, bF, rfl, af, av⟩ := Zx a_
  obtain ⟨β, rfl⟩ := Zh aH
  clear aH
  replace af : Zbp Arcs V e ag = some bF := af
  unfold Zbp at af
  obtain ⟨a45, aw, aq, rfl⟩ := ab.form
  refine sq_ fun bj => g_' (q_ (.bool (decide (e < (Arcs.length : Int)))) (Za (bj _ _ (sq_ fun bk => ?_))))
  refine wc_ (e < (Arcs.length : Int)) (fun ad => ?_) fun ad => ?_
  ·have bt := Ze ad af
   refine Zf (bk _ _ (sq_ fun aL => Zk (sq_ fun bl => g_' ?_)))
   obtain ⟨aE, aS⟩ := Zb bt
   have aV := (aU.fr U dn_)
   refine aV.ix_ 31 aE ad (le_ 73 0 (.agg #[i_ ((gt Arcs e).1), i_ ((gt Arcs e).2.1), .int .u64 ((gt Arcs e).2.2.1), i_ ((gt Arcs e).2.2.2)]) aV aE ad ?_)
   refine rk_ U.wf [i_ 0, i_ 0, .int .u64 0, i_ 0] fun aj bG Y al bu => ?_
   obtain ⟨bH, bq, aa, an⟩ := ra_ 73 0 Y.wf bu [i_ ((gt Arcs e).1), i_ ((gt Arcs e).2.1), .int .u64 ((gt Arcs e).2.2.1), i_ ((gt Arcs e).2.2.2)] [i_ ((gt Arcs e).1), i_ ((gt Arcs e).2.1), .int .u64 ((gt Arcs e).2.2.1), i_ ((gt Arcs e).2.2.2)]
   refine ek_ bq (Za (bl _ _ (sq_ fun bn => g_' (q_ (pt_ aj 0) (lr_ 3 0 (i_ ((gt Arcs e).1)) an (q_ (i_ V) (q_ (.bool (decide (((gt Arcs e).1) = V))) (Za (bn _ _ ?_)))))))))
   refine wc_ (((gt Arcs e).1) = V) (fun ar => ?_) fun ar => ?_
   ·have bv := Ze ar aS
    refine g_' (q_ (.slice a45 aw aq) (q_ (pt_ aj 1) (lr_ 3 1 (i_ ((gt Arcs e).2.1)) an (q_ (pt_ aj 2) (lr_ 27 2 (.int .u64 ((gt Arcs e).2.2.1)) an (q_ (pt_ aj 3) (lr_ 3 3 (i_ ((gt Arcs e).2.2.2)) an (q_ (.agg #[i_ ((gt Arcs e).2.1), .int .u64 ((gt Arcs e).2.2.1), i_ ((gt Arcs e).2.2.2)]) ?_))))))))
    have bC := ((ab.ext Y).fr aa (al.djn ab.lt))
    obtain ⟨bE, bc, bw⟩ := bs_ bv
    refine ck_ (Zei aa.wf bC.sq bc) ?_
    rintro bL bI ⟨_, aZ, rfl, aY, aN, be⟩
    obtain ⟨aB, aQ, aC, rfl⟩ := aN.form
    refine q_ (.slice aB aQ aC) (Za (aL _ _ (g_' ?_)))
    obtain ⟨a6, bx⟩ := Zb bw
    refine w_' ((e + 1)) (Zo (by have := a6; omega)) (q_ (i_ (e + 1)) (Za ?_))
    have bp := (t_ (t_ U.n Y.n) aa.n)
    obtain rfl := oi_ bx
    exact aK aP _ _ lt_ ⟨(e + 1), bE, (.slice aB aQ aC), aZ, av, ha_, (fs_ O.wf (fs_ O.wf ((fs_ O.wf (fr_ O.wf) U in_).extR Y) aa (al.fresh U.n)) aY in_), aN, (be.fresh bp)⟩
   have bz := Zi ar aS
   refine Zf (aL _ _ (g_' ?_))
   obtain ⟨a7, bA⟩ := Zb bz
   refine w_' ((e + 1)) (Zo (by have := a7; omega)) (q_ (i_ (e + 1)) (Za ?_))
   have bD := ((ab.ext Y).fr aa (al.djn ab.lt))
   obtain rfl := oi_ bA
   exact aK aP _ _ lt_ ⟨(e + 1), ag, (.slice a45 aw aq), ac, av, ha_, (fs_ O.wf ((fs_ O.wf (fr_ O.wf) U in_).extR Y) aa (al.fresh U.n)), bD, (aJ.fresh (Nat.le_refl _))⟩
  have bB := Zi ad af
  refine ZL (Zj (Zj (ZV ?_)))
  obtain rfl := oi_ bB
  obtain rfl := ZG av
  exact bi _ _ ⟨(.slice a45 aw aq), ac, ha_, (fs_ O.wf (fr_ O.wf) U in_), ab, (aJ.fresh (Nat.le_refl _))⟩
 obtain ⟨ax, f25, aG, aX, aM, bd⟩ := hM
 obtain ⟨β, rfl⟩ := Zh aG
 clear aG
 obtain ⟨ai, am, ak, rfl⟩ := aM.form
 refine bg _ _ (sq_ fun bo => g_' (q_ (.slice ai am ak) (q_ (.slice ai am ak) (Za (bo _ _ ?_)))))
 refine Zg ?_
 refine br_ [.slice ai am ak] ?_
 obtain rfl := oi_ bs
 exact ⟨(.slice ai am ak), f25, rfl, (fs_ az ((f0_ az).extR O) aX in_), aM, (bd.fresh O.n)⟩
theorem Zfe {H : AH} {aj : Value} {aK : Fp} {aa : Value} {aL : Fp} {al : List (Bool)} {Arcs : List (Int × Int × Int × Int)} {u : Int} {w : Int} {r : Int × Bool}
    (V : WF H) (aO : Sq Zc2 1 H aj al aK) (aq : Sq Zr 4 H aa Arcs aL) (av : Zbh al Arcs u w = some r) :
    ACalls Try.prog 18 #[.agg #[aj, aa], i_ u, i_ w] H fun v H' => v = .tuple #[.int .u64 r.1, .bool r.2] /\ FrS [] H H' := by
 refine ab_ Try.func18 ?_
 unfold Zbh at av
 refine sq_ fun k1 => g_' ?_
 refine ZbJ V [aj, aa] (Zy (aO.one1) (Zy (aq.one1) (Zau))) (by kernel_rfl) fun b2 ao O bm bb => ?_
 refine q_ (.int .u64 0) (q_ (.bool false) (Za (k1 _ _ (sq_ fun a1 => sq_ fun a2 => g_' (q_ (pt_ b2 1) (lr_ 31 1 (aa) bb ?_))))))
 have aG := (aq.ext O)
 refine aG.ln_ 31 (q_ (i_ 0) (Za (a2 _ _ ?_)))
 obtain ⟨aI, aS, aD⟩ := bs_ av
 refine ZC (fun α am => ∃ aC, aI = Sum.inr aC /\ Has α [] /\ FrS [] ao am) (fun _ aU => ?_) (fun α am hM => ?_)
 ·refine Zk ?_
  obtain ⟨aA, aQ⟩ := Zv.1 aS
  refine ZJ (fun n α an => ∃ (e : Int), ZN (fun zz_ => ZaP Arcs u w zz_) n e = some aI /\ Has α [(1, i_ u), (2, i_ w), (11, aa), (12, i_ (Arcs.length : Int)), (13, i_ e)] /\ FrS [] ao an) aA ⟨0, aQ, ha_, (fr_ O.wf)⟩ ?_
  rintro aA α an ⟨e, aP, au, U⟩ bl ax
  obtain ⟨aB, bi, rfl, ab, ad⟩ := Zx aP
  obtain ⟨β, rfl⟩ := Zh au
  clear au
  replace ab : ZaP Arcs u w e = some bi := ab
  unfold ZaP at ab
  refine sq_ fun aV => g_' (q_ (.bool (decide (e < (Arcs.length : Int)))) (Za (aV _ _ (sq_ fun aW => ?_))))
  refine wc_ (e < (Arcs.length : Int)) (fun Y => ?_) fun Y => ?_
  ·have a8 := Ze Y ab
   refine Zf (aW _ _ (sq_ fun ay => Zk (sq_ fun aX => g_' ?_)))
   obtain ⟨ap, aE⟩ := Zb a8
   have aH := (aG.fr U dn_)
   refine aH.ix_ 31 ap Y (le_ 73 0 (.agg #[i_ ((gt Arcs e).1), i_ ((gt Arcs e).2.1), .int .u64 ((gt Arcs e).2.2.1), i_ ((gt Arcs e).2.2.2)]) aH ap Y ?_)
   refine rk_ U.wf [i_ 0, i_ 0, .int .u64 0, i_ 0] fun ae bj ac ai a_ => ?_
   obtain ⟨bk, a7, af, ak⟩ := ra_ 73 0 ac.wf a_ [i_ ((gt Arcs e).1), i_ ((gt Arcs e).2.1), .int .u64 ((gt Arcs e).2.2.1), i_ ((gt Arcs e).2.2.2)] [i_ ((gt Arcs e).1), i_ ((gt Arcs e).2.1), .int .u64 ((gt Arcs e).2.2.1), i_ ((gt Arcs e).2.2.2)]
   refine ek_ a7 (Za (aX _ _ (sq_ fun az => g_' (q_ (pt_ ae 0) (lr_ 3 0 (i_ ((gt Arcs e).1)) ak (q_ (i_ u) ?_))))))
   refine sb_ (((gt Arcs e).1) = u) (fun ag => ?_) fun ag => ?_
   ·have aF := Ze ag aE
    refine q_ (.bool true) (q_ (pt_ ae 1) (lr_ 3 1 (i_ ((gt Arcs e).2.1)) ak (q_ (i_ w) (q_ (.bool (decide (((gt Arcs e).2.1) = w))) (q_ (.bool (decide (((gt Arcs e).2.1) = w))) (Za (az _ _ ?_)))))))
    refine wc_ (((gt Arcs e).2.1) = w) (fun ah => ?_) fun ah => ?_
    ·have ba := Ze ah aF
     refine sq_ fun aY => g_' (q_ (pt_ ae 2) (lr_ 27 2 (.int .u64 ((gt Arcs e).2.2.1)) ak (q_ (.int .u64 ((gt Arcs e).2.2.1)) (q_ (.bool true) (Za (aY _ _ ?_))))))
     refine Zg (Z5 (Zn (Zn (Z5 (Zn (Zn ?_))))))
     obtain ⟨v55, aw, aT⟩ := map_some ba
     subst aT
     obtain rfl := ZG ad
     have aR := elim_inl aD
     rw [aR] at aw
     refine br_ [.int .u64 ((gt Arcs e).2.2.1), .bool true] ?_
     have a6 := (t_ O.n U.n)
     obtain rfl := oi_ aw
     exact ⟨rfl, (fs_ V ((fs_ V ((f0_ V).extR O) U in_).extR ac) af (ai.fresh a6))⟩
    have bc := Zi ah aF
    refine Zf (ay _ _ (g_' ?_))
    obtain ⟨aM, bd⟩ := Zb bc
    refine w_' ((e + 1)) (Zo (by have := aM; omega)) (q_ (i_ (e + 1)) (Za ?_))
    obtain rfl := oi_ bd
    exact ax aB _ _ lt_ ⟨(e + 1), ad, ha_, (fs_ O.wf ((fs_ O.wf (fr_ O.wf) U in_).extR ac) af (ai.fresh U.n))⟩
   have be := Zi ag aE
   refine q_ (.bool false) (n_' (n_' (n_' (n_' (q_ (.bool false) (Za (az _ _ ?_)))))))
   refine wb_ false (fun h => by cases h) fun _ => ?_
   refine Zf (ay _ _ (g_' ?_))
   obtain ⟨aN, bf⟩ := Zb be
   refine w_' ((e + 1)) (Zo (by have := aN; omega)) (q_ (i_ (e + 1)) (Za ?_))
   obtain rfl := oi_ bf
   exact ax aB _ _ lt_ ⟨(e + 1), ad, ha_, (fs_ O.wf ((fs_ O.wf (fr_ O.wf) U in_).extR ac) af (ai.fresh U.n))⟩
  have bg := Zi Y ab
  refine ZL (Zj (Zj (ZV ?_)))
  obtain rfl := oi_ bg
  obtain rfl := ZG ad
  exact aU _ _ ⟨_, rfl, trivial, (fs_ O.wf (fr_ O.wf) U in_)⟩
 obtain ⟨aC, rfl, ar, aJ⟩ := hM
 have bh := elim_inr aD
 obtain ⟨β, rfl⟩ := Zh ar
 clear ar
 refine a1 _ _ (sq_ fun aZ => g_' (q_ (.int .u64 0) (q_ (.bool false) (Za (aZ _ _ ?_)))))
 refine Zg ?_
 refine br_ [.int .u64 0, .bool false] ?_
 obtain rfl := oi_ bh
 exact ⟨rfl, (fs_ V ((f0_ V).extR O) aJ in_)⟩
end Go.Vd
