/- The walks of the functions (printed by a program of ours). -/
import Derived.Test.YtlfclppjhkeljaaGreatPwt4
import Derived.Test.YtlfclppjhkeljaaGreatPwtIWt
import Derived.Test.YtlfclppjhkeljaaGreatPwtVeN
import Derived.Test.YtlfclppjhkeljaaGreatPwtVeT
set_option linter.unusedVariables false
set_option linter.unusedSimpArgs false
set_option linter.unusedSectionVars false
/-! (KWt10) -/

set_option maxRecDepth 100000
set_option maxHeartbeats 4000000
set_option linter.unusedVariables false
namespace Go.Vd
open Go.Proofs
attribute [local irreducible] Zs Zu aWp
theorem Zg3 {H : AH} {ay : Value} {cG : Fp} {aU : Value} {cI : Fp} {a9 : Value} {cH : Fp} {aT : Value} {cF : Fp} {a8 : Value} {cE : Fp} {X : List (Int)} {V : List (Int)} {bx : List (Int × Int × Int × Int)} {O : List (Int)} {bw : List (Int × Int × Int × Int)} {r : List (Int)}
    (aX : WF H) (bK : Sq (Zh .u32) 1 H ay X cG) (bL : Sq (Zh .u32) 1 H aU V cI) (cU : Sq Ze 4 H a9 bx cH) (a7 : Sq (Zh .u32) 1 H aT O cF) (cT : Sq Ze 4 H a8 bw cE) (b2 : ZcT X V bx O bw = some r) :
    ACalls Tryz.prog 61 #[.agg #[ay, aU, a9, aT, a8]] H fun v H' => ∃ (ci : Value) (bJ : Fp), v = ci /\ FrS [] H H' /\ Ow (Zh .i64) 1 H' ci r bJ /\ Inn [] H bJ := by
 refine ab_ Tryz.func61 ?_
 unfold ZcT at b2
 refine sq_ fun dD => g_' ?_
 refine Z3 aX [ay, aU, a9, aT, a8] (Zd (bK.one1) (Zd (bL.one1) (Zd (cU.one1) (Zd (a7.one1) (Zd (cT.one1) (ZN)))))) (by kernel_rfl) fun af eE ag eP bl => ?_
 refine qs_ 1 (Za (dD _ _ (sn_ (sq_ fun de => sq_ fun df => g_' (qs_ 1 (lr_ 22 1 (aU) bl (qs_ 1 (lr_ 22 3 (aT) bl ?_))))))))
 have bu := (bL.ext ag)
 obtain ⟨an, aD, aw, rfl⟩ := bu.form
 have bv := (a7.ext ag)
 obtain ⟨ao, aE, ax, rfl⟩ := bv.form
 refine s_lsl ag.wf [.slice an aD aw, .slice ao aE ax] 2 (Zd (bu.one1) (Zd (bv.one1) (ZN))) (by kernel_rfl) fun ae aF Y eQ ch => ?_
 refine qs_ 2 (Za (df _ _ (Zl ?_)))
 refine ZdX ?_
 refine sn_ (sq_ fun dy => ?_)
 refine wb_ true (fun _ => ?_) fun h => by cases h
 refine Zg (dy _ _ (sq_ fun dz => Zl (sq_ fun dA => g_' (qs_ 1 (lr_ 22 0 (.slice an aD aw) ch (qs_ 1 (Za (dA _ _ (sq_ fun dB => g_' (qs_ 1 ?_))))))))))
 have cj := (bl.ext Y)
 refine lr_ 22 0 (ay) cj ?_
 have ck := ((bK.ext ag).ext Y)
 refine ck.ln_ 22 (qs_ 1 (Za (dB _ _ ?_)))
 obtain ⟨bj, c7, eg⟩ := bs_ b2
 refine Zv (fun α al => ∃ (br : Value) (ah : Fp), Has α [(1, pt_ af 0), (3, br), (11, .slice (some ⟨ae, 0, none⟩) 2 2), (12, i_ 2), (13, i_ 0)] /\ FrS [] aF al /\ Ow (Zh .i64) 1 al br bj ah /\ Inn [] aF ah) (fun _ dC => ?_) (fun α al hM => ?_)
 ·refine Zl ?_
  obtain ⟨cd, c3⟩ := Zr.1 c7
  refine Zy (fun n α am => ∃ (z : Int), ∃ (aq : List (Int)), ∃ (bs : Value), ∃ (ad : Fp), ZD (fun zz_ => ZaS X V zz_.1 zz_.2) n (z, aq) = some bj /\ Has α [(1, pt_ af 0), (3, bs), (5, .slice an aD aw), (11, .slice (some ⟨ae, 0, none⟩) 2 2), (12, i_ 2), (13, i_ 0), (19, i_ (X.length : Int)), (20, i_ z)] /\ FrS [] aF am /\ Ow (Zh .i64) 1 am bs aq ad /\ Inn [] aF ad) cd ⟨0, [], (.slice none 0 0), [], c3, ha_, (fr_ Y.wf), (Ow.nil (by decide)), in_⟩ ?_
  rintro cd α am ⟨z, aq, bs, ad, c0, bS, ab, bh, bd⟩ eI dE
  obtain ⟨dV, ez, rfl, aC, b1⟩ := Zt c0
  obtain ⟨β, rfl⟩ := Zi bS
  clear bS
  replace aC : ZaS X V z aq = some ez := aC
  unfold ZaS at aC
  obtain ⟨bD, ce, bI, rfl⟩ := bh.form
  refine sn_ (sq_ fun dF => ?_)
  refine wc_ (z < (X.length : Int)) (fun a6 => ?_) fun a6 => ?_
  ·have eh := Zf a6 aC
   refine Zg (dF _ _ (sq_ fun dG => Zl (sn_ (sq_ fun dH => ?_))))
   refine ZJ [0, 1, 2, 3, 4, 5, 6, 7, 8, 9, 10] (by kernel_rfl) ?_
   refine es_ 2 ?_
   obtain ⟨cR, ej⟩ := Zb eh
   refine d_w ((z + 1)) (k := .i64) (x := (z + 1)) (by kernel_rfl) (Zn cR) ?_
   obtain ⟨aR, ek⟩ := Zb ej
   have aW := ((bu.ext Y).fr ab dn_)
   refine aW.mx_ 22 aR.1 aR.2 (me_ 60 0 (.int .u32 (gt V (z + 1))) aW aR.1 aR.2 (es_ 2 ?_))
   obtain ⟨aS, el⟩ := Zb ek
   refine aW.mx_ 22 aS.1 aS.2 (me_ 60 0 (.int .u32 (gt V z)) aW aS.1 aS.2 ?_)
   obtain ⟨cS, em⟩ := Zb el
   refine d_w (((gt V (z + 1)) - (gt V z))) (k := .u32) (x := ((gt V (z + 1)) - (gt V z))) (by kernel_rfl) (ZcX cS) ?_
   refine es_ 1 ?_
   refine ZE ?_
   refine dH _ _ ?_
   obtain ⟨bk, c8, eo⟩ := bs_ em
   refine Zv (fun α a1 => ∃ (bt : Value) (aO : Fp), Has α [(1, pt_ af 0), (3, bt), (5, .slice an aD aw), (11, .slice (some ⟨ae, 0, none⟩) 2 2), (12, i_ 2), (13, i_ 0), (19, i_ (X.length : Int)), (20, i_ z)] /\ FrS ad am a1 /\ Ow (Zh .i64) 1 a1 bt bk aO /\ Inn ad am aO) (fun _ dI => ?_) (fun α a1 hM => ?_)
   ·refine Zl ?_
    obtain ⟨cf, c4⟩ := Zr.1 c8
    refine Zy (fun n α a2 => ∃ (ap : List (Int)), ∃ (ai : Int), ∃ (bm : Value), ∃ (aK : Fp), ZD (fun zz_ => Zb4 V z zz_.1 zz_.2) n (ap, ai) = some bk /\ Has α [(1, pt_ af 0), (3, bm), (5, .slice an aD aw), (6, i_ z), (11, .slice (some ⟨ae, 0, none⟩) 2 2), (12, i_ 2), (13, i_ 0), (19, i_ (X.length : Int)), (20, i_ z), (32, .int .u32 ((gt V (z + 1)) - (gt V z))), (33, .int .u32 ai)] /\ FrS ad am a2 /\ Ow (Zh .i64) 1 a2 bm ap aK /\ Inn ad am aK) cf ⟨aq, 0, (.slice bD ce bI), ad, c4, ha_, (fr_ ab.wf), bh, ir_⟩ ?_
    rintro cf α a2 ⟨ap, ai, bm, aK, cX, bM, aJ, be, a_⟩ eF db
    obtain ⟨dJ, ev, rfl, az, bY⟩ := Zt cX
    obtain ⟨β, rfl⟩ := Zi bM
    clear bM
    replace az : Zb4 V z ap ai = some ev := az
    unfold Zb4 at az
    obtain ⟨cl, dK, cq, rfl⟩ := be.form
    refine sn_ (sq_ fun dc => ?_)
    refine wc_ (ai < ((gt V (z + 1)) - (gt V z))) (fun a3 => ?_) fun a3 => ?_
    ·have dY := Zf a3 az
     refine Zg (dc _ _ (sq_ fun dd => Zl (g_' (qs_ 2 ?_))))
     refine ZaK (enc := (Zh .i64)) (sz := 1) aJ.wf [z] 1 (by decide) (fun _ _ => rfl) (fun _ _ => rfl) rfl (by kernel_rfl) fun eW eN eA aG eR bU => ?_
     obtain ⟨eJ, eU, eL, rfl⟩ := bU.form
     have ep := (be.ext aG)
     obtain ⟨cJ, dZ⟩ := Zb dY
     obtain ⟨eX, eB, cC, dW, cx, bV, cV⟩ := Ow.append (P := Tryz.prog) 8 aG.wf ep bU.sq (fun _ _ => rfl) (at_ := #[38, 38]) rfl rfl (by kernel_rfl) (by kernel_rfl) (by decide) (by have := cJ; first | omega | (simp only [List.length_cons, List.length_nil] at this ⊢; omega) | (simp at this ⊢; omega))
     obtain ⟨bz, b7, bE, rfl⟩ := bV.form
     refine ZbX (.slice bz b7 bE) (by kernel_rfl) (dW) ?_
     refine qs_ 1 (Za (dd _ _ (g_' ?_)))
     obtain ⟨cK, d0⟩ := Zb dZ
     refine s_w ((ai + 1)) (k := .u32) (x := (ai + 1)) (by kernel_rfl) (ZcX cK) ?_
     refine qs_ 1 (Za ?_)
     have dL := (t_ aJ.n aG.n)
     obtain rfl := oi_ d0
     exact db dJ _ _ lt_ ⟨(ap ++ [z]), (ai + 1), (.slice bz b7 bE), cC, bY, ha_, (fs_ ab.wf ((fs_ ab.wf (fr_ ab.wf) aJ ir_).extR aG) cx (Inn.trans ir_ (Nat.le_refl _) a_)), bV, (Inn.trans (Inn.trans ir_ (Nat.le_refl _) a_) dL cV)⟩
    have d1 := Zj a3 az
    refine ZA (Zm (Zm (ZK ?_)))
    obtain rfl := oi_ d1
    obtain rfl := Zw bY
    exact dI _ _ ⟨(.slice cl dK cq), aK, ha_, (fs_ ab.wf (fr_ ab.wf) aJ ir_), be, (Inn.trans ir_ (Nat.le_refl _) a_)⟩
   obtain ⟨bt, aO, bT, cB, b6, da⟩ := hM
   obtain ⟨β, rfl⟩ := Zi bT
   clear bT
   obtain ⟨cm, dM, cr, rfl⟩ := b6.form
   refine dG _ _ (g_' ?_)
   obtain ⟨cL, d2⟩ := Zb eo
   refine w_' ((z + 1)) (Zn (by have := cL; omega)) (qs_ 1 (Za ?_))
   obtain rfl := oi_ d2
   exact dE dV _ _ lt_ ⟨(z + 1), bk, (.slice cm dM cr), aO, b1, ha_, (fs_ Y.wf (fs_ Y.wf (fr_ Y.wf) ab in_) cB (bd.fresh (Nat.le_refl _))), b6, (Inn.trans (bd.fresh (Nat.le_refl _)) ab.n da)⟩
  have d3 := Zj a6 aC
  refine ZA (Zm (Zm (ZK ?_)))
  obtain rfl := oi_ d3
  obtain rfl := Zw b1
  exact dC _ _ ⟨(.slice bD ce bI), ad, ha_, (fs_ Y.wf (fr_ Y.wf) ab in_), bh, (bd.fresh (Nat.le_refl _))⟩
 obtain ⟨br, ah, bR, Z, b5, bc⟩ := hM
 obtain ⟨β, rfl⟩ := Zi bR
 clear bR
 obtain ⟨cn, dN, ct, rfl⟩ := b5.form
 refine dz _ _ (g_' (qs_ 2 (Za ?_)))
 refine ZdX ?_
 refine sn_ (sq_ fun dg => ?_)
 refine wb_ true (fun _ => ?_) fun h => by cases h
 refine Zg (dg _ _ (sq_ fun dh => Zl (sq_ fun di => g_' (qs_ 1 ?_))))
 have eq := (ch.frS Z dn_)
 refine lr_ 22 1 (.slice ao aE ax) eq (qs_ 1 (Za (di _ _ (sq_ fun dk => g_' (qs_ 1 ?_)))))
 have es := (cj.frS Z dn_)
 refine lr_ 22 0 (ay) es ?_
 have et := (ck.fr Z dn_)
 refine et.ln_ 22 (qs_ 1 (Za (dk _ _ ?_)))
 obtain ⟨cg, c5, d4⟩ := bs_ eg
 refine Zv (fun α aY => ∃ (bn : Value) (aL : Fp), Has α [(1, pt_ af 0), (3, bn), (11, .slice (some ⟨ae, 0, none⟩) 2 2), (12, i_ 2), (13, i_ 1)] /\ FrS ah al aY /\ Ow (Zh .i64) 1 aY bn cg aL /\ Inn ah al aL) (fun _ dm => ?_) (fun α aY hM => ?_)
 ·refine Zl ?_
  obtain ⟨b8, c1⟩ := Zr.1 c5
  refine Zy (fun n α ak => ∃ (J : Int), ∃ (av : List (Int)), ∃ (bo : Value), ∃ (ac : Fp), ZD (fun zz_ => Zb6 X O zz_.1 zz_.2) n (J, av) = some cg /\ Has α [(1, pt_ af 0), (3, bo), (5, .slice ao aE ax), (11, .slice (some ⟨ae, 0, none⟩) 2 2), (12, i_ 2), (13, i_ 1), (19, i_ (X.length : Int)), (20, i_ J)] /\ FrS ah al ak /\ Ow (Zh .i64) 1 ak bo av ac /\ Inn ah al ac) b8 ⟨0, bj, (.slice cn dN ct), ah, c1, ha_, (fr_ Z.wf), b5, ir_⟩ ?_
  rintro b8 α ak ⟨J, av, bo, ac, cY, bO, aa, bf, ba⟩ eG dp
  obtain ⟨dO, ew, rfl, aA, bZ⟩ := Zt cY
  obtain ⟨β, rfl⟩ := Zi bO
  clear bO
  replace aA : Zb6 X O J av = some ew := aA
  unfold Zb6 at aA
  obtain ⟨bA, b9, bF, rfl⟩ := bf.form
  refine sn_ (sq_ fun dq => ?_)
  refine wc_ (J < (X.length : Int)) (fun a4 => ?_) fun a4 => ?_
  ·have d5 := Zf a4 aA
   refine Zg (dq _ _ (sq_ fun dr => Zl (sn_ (sq_ fun dt => ?_))))
   refine ZJ [0, 1, 2, 3, 4, 5, 6, 7, 8, 9, 10] (by kernel_rfl) ?_
   refine es_ 2 ?_
   obtain ⟨cM, d6⟩ := Zb d5
   refine d_w ((J + 1)) (k := .i64) (x := (J + 1)) (by kernel_rfl) (Zn cM) ?_
   obtain ⟨aP, d7⟩ := Zb d6
   have dP := (t_ ag.n Y.n)
   have cw := (bc.djn (a7.lt.le dP))
   have aV := (((bv.ext Y).fr Z dn_).fr aa cw)
   refine aV.mx_ 22 aP.1 aP.2 (me_ 60 0 (.int .u32 (gt O (J + 1))) aV aP.1 aP.2 (es_ 2 ?_))
   obtain ⟨aQ, d8⟩ := Zb d7
   refine aV.mx_ 22 aQ.1 aQ.2 (me_ 60 0 (.int .u32 (gt O J)) aV aQ.1 aQ.2 ?_)
   obtain ⟨cN, d9⟩ := Zb d8
   refine d_w (((gt O (J + 1)) - (gt O J))) (k := .u32) (x := ((gt O (J + 1)) - (gt O J))) (by kernel_rfl) (ZcX cN) ?_
   refine es_ 1 ?_
   refine ZE ?_
   refine dt _ _ ?_
   obtain ⟨bi, c6, d_⟩ := bs_ d9
   refine Zv (fun α aZ => ∃ (bp : Value) (aM : Fp), Has α [(1, pt_ af 0), (3, bp), (5, .slice ao aE ax), (11, .slice (some ⟨ae, 0, none⟩) 2 2), (12, i_ 2), (13, i_ 1), (19, i_ (X.length : Int)), (20, i_ J)] /\ FrS ac ak aZ /\ Ow (Zh .i64) 1 aZ bp bi aM /\ Inn ac ak aM) (fun _ du => ?_) (fun α aZ hM => ?_)
   ·refine Zl ?_
    obtain ⟨b_, c2⟩ := Zr.1 c6
    refine Zy (fun n α a0 => ∃ (au : List (Int)), ∃ (aj : Int), ∃ (bq : Value), ∃ (aN : Fp), ZD (fun zz_ => ZcO O J zz_.1 zz_.2) n (au, aj) = some bi /\ Has α [(1, pt_ af 0), (3, bq), (5, .slice ao aE ax), (6, i_ J), (11, .slice (some ⟨ae, 0, none⟩) 2 2), (12, i_ 2), (13, i_ 1), (19, i_ (X.length : Int)), (20, i_ J), (32, .int .u32 ((gt O (J + 1)) - (gt O J))), (33, .int .u32 aj)] /\ FrS ac ak a0 /\ Ow (Zh .i64) 1 a0 bq au aN /\ Inn ac ak aN) b_ ⟨av, 0, (.slice bA b9 bF), ac, c2, ha_, (fr_ aa.wf), bf, ir_⟩ ?_
    rintro b_ α a0 ⟨au, aj, bq, aN, cZ, bQ, aH, bg, bb⟩ eH dv
    obtain ⟨dQ, ey, rfl, aB, b0⟩ := Zt cZ
    obtain ⟨β, rfl⟩ := Zi bQ
    clear bQ
    replace aB : ZcO O J au aj = some ey := aB
    unfold ZcO at aB
    obtain ⟨co, dR, cu, rfl⟩ := bg.form
    refine sn_ (sq_ fun dw => ?_)
    refine wc_ (aj < ((gt O (J + 1)) - (gt O J))) (fun a5 => ?_) fun a5 => ?_
    ·have ea := Zf a5 aB
     refine Zg (dw _ _ (sq_ fun dx => Zl (g_' (qs_ 2 ?_))))
     refine ZaK (enc := (Zh .i64)) (sz := 1) aH.wf [J] 1 (by decide) (fun _ _ => rfl) (fun _ _ => rfl) rfl (by kernel_rfl) fun eY eO eC aI eS bW => ?_
     obtain ⟨eK, eV, eM, rfl⟩ := bW.form
     have eu := (bg.ext aI)
     obtain ⟨cO, eb⟩ := Zb ea
     obtain ⟨eZ, eD, cD, dX, cA, bX, cW⟩ := Ow.append (P := Tryz.prog) 8 aI.wf eu bW.sq (fun _ _ => rfl) (at_ := #[38, 38]) rfl rfl (by kernel_rfl) (by kernel_rfl) (by decide) (by have := cO; first | omega | (simp only [List.length_cons, List.length_nil] at this ⊢; omega) | (simp at this ⊢; omega))
     obtain ⟨bB, ca, bG, rfl⟩ := bX.form
     refine ZbX (.slice bB ca bG) (by kernel_rfl) (dX) ?_
     refine qs_ 1 (Za (dx _ _ (g_' ?_)))
     obtain ⟨cP, ec⟩ := Zb eb
     refine s_w ((aj + 1)) (k := .u32) (x := (aj + 1)) (by kernel_rfl) (ZcX cP) ?_
     refine qs_ 1 (Za ?_)
     have dS := (t_ aH.n aI.n)
     obtain rfl := oi_ ec
     exact dv dQ _ _ lt_ ⟨(au ++ [J]), (aj + 1), (.slice bB ca bG), cD, b0, ha_, (fs_ aa.wf ((fs_ aa.wf (fr_ aa.wf) aH ir_).extR aI) cA (Inn.trans ir_ (Nat.le_refl _) bb)), bX, (Inn.trans (Inn.trans ir_ (Nat.le_refl _) bb) dS cW)⟩
    have ed := Zj a5 aB
    refine ZA (Zm (Zm (ZK ?_)))
    obtain rfl := oi_ ed
    obtain rfl := Zw b0
    exact du _ _ ⟨(.slice co dR cu), aN, ha_, (fs_ aa.wf (fr_ aa.wf) aH ir_), bg, (Inn.trans ir_ (Nat.le_refl _) bb)⟩
   obtain ⟨bp, aM, bP, cz, b4, c_⟩ := hM
   obtain ⟨β, rfl⟩ := Zi bP
   clear bP
   obtain ⟨cp, dT, cv, rfl⟩ := b4.form
   refine dr _ _ (g_' ?_)
   obtain ⟨cQ, ee⟩ := Zb d_
   refine w_' ((J + 1)) (Zn (by have := cQ; omega)) (qs_ 1 (Za ?_))
   obtain rfl := oi_ ee
   exact dp dO _ _ lt_ ⟨(J + 1), bi, (.slice cp dT cv), aM, bZ, ha_, (fs_ Z.wf (fs_ Z.wf (fr_ Z.wf) aa ir_) cz (Inn.trans ir_ (Nat.le_refl _) ba)), b4, (Inn.trans (Inn.trans ir_ (Nat.le_refl _) ba) aa.n c_)⟩
  have ef := Zj a4 aA
  refine ZA (Zm (Zm (ZK ?_)))
  obtain rfl := oi_ ef
  obtain rfl := Zw bZ
  exact dm _ _ ⟨(.slice bA b9 bF), ac, ha_, (fs_ Z.wf (fr_ Z.wf) aa ir_), bf, (Inn.trans ir_ (Nat.le_refl _) ba)⟩
 obtain ⟨bn, aL, bN, cy, b3, c9⟩ := hM
 obtain ⟨β, rfl⟩ := Zi bN
 clear bN
 obtain ⟨bC, cb, bH, rfl⟩ := b3.form
 refine dh _ _ (g_' (qs_ 2 (Za ?_)))
 refine ZdX ?_
 refine sn_ (sq_ fun eT => ?_)
 refine wb_ false (fun h => by cases h) fun _ => ?_
 refine ZA (Zm (Zm (ZK ?_)))
 refine de _ _ (sn_ ?_)
 refine Zp ?_
 refine br_ [.slice bC cb bH] ?_
 have cc := (t_ ag.n Y.n)
 have dU := (t_ (t_ ag.n Y.n) Z.n)
 obtain rfl := oi_ d4
 exact ⟨(.slice bC cb bH), aL, rfl, (fs_ aX (fs_ aX (((f0_ aX).extR ag).extR Y) Z in_) cy (bc.fresh cc)), b3, (Inn.trans (bc.fresh cc) dU c9)⟩
theorem Zhf {H : AH} {ad : Value} {bO : Fp} {aC : Value} {bQ : Fp} {ai : Value} {bP : Fp} {aB : Value} {bN : Fp} {aA : Value} {bM : Fp} {ab : Value} {bR : Fp} {aj : Value} {bS : Fp} {Y : List (Int)} {au : List (Int)} {af : List (Int × Int × Int × Int)} {an : List (Int)} {am : List (Int × Int × Int × Int)} {at_ : List (Int)} {X : List (Int)} {r : List (Int)}
    (aV : WF H) (aL : Sq (Zh .u32) 1 H ad Y bO) (a8 : Sq (Zh .u32) 1 H aC au bQ) (a7 : Sq Ze 4 H ai af bP) (a6 : Sq (Zh .u32) 1 H aB an bN) (a5 : Sq Ze 4 H aA am bM) (bZ : Sq (Zh .i64) 1 H ab at_ bR) (b0 : Sq (Zh .i64) 1 H aj X bS) (bh : ZcY Y au af an am at_ X = some r) :
    ACalls Tryz.prog 60 #[.agg #[ad, aC, ai, aB, aA], ab, aj] H fun v H' => ∃ (bx : Value) (a3 : Fp), v = bx /\ FrS [] H H' /\ Ow (Zh .i64) 1 H' bx r a3 /\ Inn [] H a3 := by
 refine ab_ Tryz.func60 ?_
 unfold ZcY at bh
 refine sq_ fun cf => g_' ?_
 refine Z3 aV [ad, aC, ai, aB, aA] (Zd (aL.one1) (Zd (a8.one1) (Zd (a7.one1) (Zd (a6.one1) (Zd (a5.one1) (ZN)))))) (by kernel_rfl) fun aG aq z c5 bw => ?_
 refine qs_ 1 (Za (cf _ _ (sn_ (sq_ fun b8 => sq_ fun b9 => g_' (qs_ 1 ?_)))))
 have bB := (b0.ext z)
 refine bB.ln_ 38 (qs_ 1 (Za (b9 _ _ ?_)))
 obtain ⟨bu, b5, cz⟩ := bs_ bh
 refine Zv (fun α aD => ∃ (aO : Value) (ax : Fp), Has α [(7, aO)] /\ FrS [] aq aD /\ Ow (Zh .i64) 1 aD aO bu ax /\ Inn [] aq ax) (fun _ b_ => ?_) (fun α aD hM => ?_)
 ·refine Zl ?_
  obtain ⟨bt, b4⟩ := Zr.1 b5
  refine Zy (fun n α ao => ∃ (J : Int), ∃ (al : List (Int)), ∃ (aP : Value), ∃ (aa : Fp), ZD (fun zz_ => Zb8 Y au af an am at_ X zz_.1 zz_.2) n (J, al) = some bu /\ Has α [(1, ab), (3, pt_ aG 0), (7, aP), (12, aj), (13, i_ (X.length : Int)), (14, i_ J)] /\ FrS [] aq ao /\ Ow (Zh .i64) 1 ao aP al aa /\ Inn [] aq aa) bt ⟨0, [], (.slice none 0 0), [], b4, ha_, (fr_ z.wf), (Ow.nil (by decide)), in_⟩ ?_
  rintro bt α ao ⟨J, al, aP, aa, b3, ba, O, aM, ae⟩ cW ca
  obtain ⟨cl, cR, rfl, ak, bg⟩ := Zt b3
  obtain ⟨β, rfl⟩ := Zi ba
  clear ba
  replace ak : Zb8 Y au af an am at_ X J al = some cR := ak
  unfold Zb8 at ak
  obtain ⟨aF, aN, aH, rfl⟩ := aM.form
  refine sn_ (sq_ fun cb => ?_)
  refine wc_ (J < (X.length : Int)) (fun ah => ?_) fun ah => ?_
  ·have cA := Zf ah ak
   refine Zg (cb _ _ (sq_ fun cc => Zl (sq_ fun cd => g_' ?_)))
   obtain ⟨a4, cB⟩ := Zb cA
   have bC := (bB.fr O dn_)
   refine bC.ix_ 38 a4 ah (le_ 3 0 (i_ (gt X J)) bC a4 ah (qs_ 1 (Za (cd _ _ (sq_ fun ce => ?_)))))
   refine ZJ [0, 1, 2, 3, 4, 5, 6, 7, 8, 9, 10] (by kernel_rfl) ?_
   refine es_ 2 ?_
   obtain ⟨ac, cC⟩ := Zb cB
   have aR := ((bZ.ext z).fr O dn_)
   refine aR.mx_ 38 ac.1 ac.2 ?_
   refine ZcR (i_ (gt at_ (gt X J))) (x := aL_ 3 (elp ab 1 (gt X J).toNat 0) ao) (by kernel_rfl) (aR.ld ac.1 ac.2 (by kernel_rfl)) ?_
   have bD := (bw.frS O dn_)
   refine mr_ 25 0 (.agg #[ad, aC, ai, aB, aA]) bD (es_ 1 ?_)
   have aS := ((aL.ext z).fr O dn_)
   have cM := ((a8.ext z).fr O dn_)
   have bE := ((a7.ext z).fr O dn_)
   have cN := ((a6.ext z).fr O dn_)
   have cO := ((a5.ext z).fr O dn_)
   obtain ⟨bF, b6, cD⟩ := bs_ cC
   refine dk_ (Zfp O.wf aS cM bE cN cO b6) ?_
   rintro _ ap ⟨rfl, V⟩
   have cP := (aR.fr V dn_)
   refine ⟨Zbb (y := aL_ 3 (elp ab 1 (gt X J).toNat 0) ap) (by kernel_rfl) (cP.ld ac.1 ac.2 (by kernel_rfl)) (ZP), ?_⟩
   refine es_ 1 ?_
   obtain ⟨bY, cE⟩ := Zb cD
   refine d_w (bF.1) (k := .i64) (x := bF.1) (by kernel_rfl) (Zn bY) ?_
   refine es_ 2 ?_
   refine ZE ?_
   refine ce _ _ (sq_ fun cg => sq_ fun ch => g_' (qs_ 2 ?_))
   have aT := (bD.frS V dn_)
   refine lr_ 23 2 (ai) aT ?_
   have cQ := (bE.fr V dn_)
   refine cQ.ln_ 23 (qs_ 1 (Za (ch _ _ ?_)))
   obtain ⟨Z, bi, cF⟩ := bs_ cE
   refine Zv (fun α aW => Has α [(1, ab), (3, pt_ aG 0), (7, .slice aF aN aH), (10, i_ Z.1), (11, i_ Z.2), (12, aj), (13, i_ (X.length : Int)), (14, i_ J)] /\ ap = aW) (fun _ bm => ?_) (fun α aW hM => ?_)
   ·refine wc_ ((gt X J) ≥ (af.length : Int)) (fun aK => ?_) fun aK => ?_
    ·have cG := Zf aK bi
     refine g_' (qs_ 4 (Za ?_))
     obtain rfl := oi_ cG
     exact bm _ _ ⟨ha_, rfl⟩
    have cH := Zj aK bi
    refine Zg ?_
    obtain rfl := oi_ cH
    exact bm _ _ ⟨ha_, rfl⟩
   obtain ⟨bb, rfl⟩ := hM
   obtain ⟨β, rfl⟩ := Zi bb
   clear bb
   refine cg _ _ (sq_ fun ci => sq_ fun cj => g_' (qs_ 1 ?_))
   have aU := (aM.fr V dn_)
   refine aU.sq.ln_ 38 (qs_ 1 (Za (cj _ _ ?_)))
   obtain ⟨bv, bj, cI⟩ := bs_ cF
   refine Zv (fun α aE => ∃ (aQ : Value) (aI : Fp), Has α [(1, ab), (3, pt_ aG 0), (7, aQ), (11, i_ Z.2), (12, aj), (13, i_ (X.length : Int)), (14, i_ J)] /\ FrS aa ap aE /\ Ow (Zh .i64) 1 aE aQ bv aI /\ Inn aa ap aI) (fun _ bl => ?_) (fun α aE hM => ?_)
   ·refine wc_ ((al.length : Int) = 0) (fun aJ => ?_) fun aJ => ?_
    ·have co := Zf aJ bj
     refine g_' (qs_ 2 (lr_ 22 0 (ad) aT (qs_ 1 ?_)))
     obtain ⟨ay, cp⟩ := Zb co
     have bz := (aS.fr V dn_)
     refine bz.ix_ 22 ay.1 ay.2 (le_ 60 0 (.int .u32 (gt Y Z.1)) bz ay.1 ay.2 ?_)
     obtain ⟨bT, cq⟩ := Zb cp
     refine w_' ((gt Y Z.1)) (Zn bT) ?_
     refine ZaK (enc := (Zh .i64)) (sz := 1) V.wf [(gt Y Z.1)] 1 (by decide) (fun _ _ => rfl) (fun _ _ => rfl) rfl (by kernel_rfl) fun da c3 cS av c6 bc => ?_
     obtain ⟨cX, c8, c0, rfl⟩ := bc.form
     have cJ := (aU.ext av)
     obtain ⟨bU, cr⟩ := Zb cq
     obtain ⟨db, cT, bK, cm, bH, bd, b1⟩ := Ow.append (P := Tryz.prog) 8 av.wf cJ bc.sq (fun _ _ => rfl) (at_ := #[38, 38]) rfl rfl (by kernel_rfl) (by kernel_rfl) (by decide) (by have := bU; first | omega | (simp only [List.length_cons, List.length_nil] at this ⊢; omega) | (simp at this ⊢; omega))
     obtain ⟨aX, bp, a0, rfl⟩ := bd.form
     refine ZbX (.slice aX bp a0) (by kernel_rfl) (cm) ?_
     refine qs_ 1 (Za ?_)
     obtain rfl := oi_ cr
     exact bl _ _ ⟨(.slice aX bp a0), bK, ha_, (fs_ V.wf ((fr_ V.wf).extR av) bH ir_), bd, (Inn.trans ir_ av.n b1)⟩
    have ct := Zj aJ bj
    refine Zg ?_
    obtain rfl := oi_ ct
    exact bl _ _ ⟨(.slice aF aN aH), aa, ha_, (fr_ V.wf), aU, ir_⟩
   obtain ⟨aQ, aI, a9, ag, bo, bk⟩ := hM
   obtain ⟨β, rfl⟩ := Zi a9
   clear a9
   obtain ⟨cY, c9, c1, rfl⟩ := bo.form
   refine ci _ _ (g_' (qs_ 2 ?_))
   have cK := (aT.frS ag (ae.djn bw.ltF))
   refine lr_ 22 0 (ad) cK (qs_ 1 ?_)
   obtain ⟨az, cu⟩ := Zb cI
   have bG := (ae.djn (aL.lt.le z.n))
   have bA := ((aS.fr V dn_).fr ag bG)
   refine bA.ix_ 22 az.1 az.2 (le_ 60 0 (.int .u32 (gt Y Z.2)) bA az.1 az.2 ?_)
   obtain ⟨bV, cv⟩ := Zb cu
   refine w_' ((gt Y Z.2)) (Zn bV) ?_
   refine ZaK (enc := (Zh .i64)) (sz := 1) ag.wf [(gt Y Z.2)] 1 (by decide) (fun _ _ => rfl) (fun _ _ => rfl) rfl (by kernel_rfl) fun dc c4 cU aw c7 be => ?_
   obtain ⟨cZ, c_, c2, rfl⟩ := be.form
   have cL := (bo.ext aw)
   obtain ⟨bW, cw⟩ := Zb cv
   obtain ⟨dd, cV, bL, cn, bI, bf, b2⟩ := Ow.append (P := Tryz.prog) 8 aw.wf cL be.sq (fun _ _ => rfl) (at_ := #[38, 38]) rfl rfl (by kernel_rfl) (by kernel_rfl) (by decide) (by have := bW; first | omega | (simp only [List.length_cons, List.length_nil] at this ⊢; omega) | (simp at this ⊢; omega))
   obtain ⟨aY, bq, a1, rfl⟩ := bf.form
   refine ZbX (.slice aY bq a1) (by kernel_rfl) (cn) ?_
   refine qs_ 1 (Za (cc _ _ (g_' ?_)))
   obtain ⟨bX, cx⟩ := Zb cw
   refine w_' ((J + 1)) (Zn (by have := bX; omega)) (qs_ 1 (Za ?_))
   have br := (t_ O.n V.n)
   have ck := (t_ (t_ (t_ O.n V.n) ag.n) aw.n)
   obtain rfl := oi_ cx
   exact ca cl _ _ lt_ ⟨(J + 1), (bv ++ [(gt Y Z.2)]), (.slice aY bq a1), bL, bg, ha_, (fs_ z.wf ((fs_ z.wf (fs_ z.wf (fs_ z.wf (fr_ z.wf) O in_) V in_) ag (ae.fresh (Nat.le_refl _))).extR aw) bI (Inn.trans (ae.fresh (Nat.le_refl _)) br bk)), bf, (Inn.trans (Inn.trans (ae.fresh (Nat.le_refl _)) br bk) ck b2)⟩
  have cy := Zj ah ak
  refine ZA (Zm (Zm (ZK ?_)))
  obtain rfl := oi_ cy
  obtain rfl := Zw bg
  exact b_ _ _ ⟨(.slice aF aN aH), aa, ha_, (fs_ z.wf (fr_ z.wf) O in_), aM, (ae.fresh (Nat.le_refl _))⟩
 obtain ⟨aO, ax, a_, bJ, bn, b7⟩ := hM
 obtain ⟨β, rfl⟩ := Zi a_
 clear a_
 obtain ⟨aZ, bs, a2, rfl⟩ := bn.form
 refine b8 _ _ (sn_ ?_)
 refine Zp ?_
 refine br_ [.slice aZ bs a2] ?_
 obtain rfl := oi_ cz
 exact ⟨(.slice aZ bs a2), ax, rfl, (fs_ aV ((f0_ aV).extR z) bJ in_), bn, (b7.fresh z.n)⟩
theorem ZhF {H : AH} {aj : Value} {bw : Fp} {J : List (Int)} {r : List (Int)}
    (aI : WF H) (aW : Sq (Zh .i64) 1 H aj J bw) (a5 : Zdd J = some r) :
    ACalls Tryz.prog 59 #[aj] H fun v H' => ∃ (bk : Value) (aT : Fp), v = bk /\ FrS [] H H' /\ Ow (Zh .i64) 1 H' bk r aT /\ Inn [] H aT := by
 refine ab_ Tryz.func59 ?_
 unfold Zdd at a5
 refine sn_ (sq_ fun bY => g_' ?_)
 refine s_mp .i64 .i64 aI (by kernel_rfl) fun V an X aX ac => ?_
 refine qs_ 1 (Za (bY _ _ (sn_ (sq_ fun bQ => sq_ fun bR => g_' (qs_ 1 ?_)))))
 have bm := (aW.ext X)
 refine bm.ln_ 38 (qs_ 1 (Za (bR _ _ ?_)))
 obtain ⟨bi, bH, ch⟩ := bs_ a5
 refine Zv (fun α av => ∃ (aG : Value) (ap : Fp), Has α [(4, aG)] /\ FrS [V] an av /\ Ow (Zh .i64) 1 av aG bi ap /\ Inn [] an ap) (fun _ bS => ?_) (fun α av hM => ?_)
 ·refine Zl ?_
  obtain ⟨be, bF⟩ := Zr.1 bH
  refine Zy (fun n α ab => ∃ (z : Int), ∃ (at1 : Int -> Option Int), ∃ (O : List (Int)), ∃ (aH : Value), ∃ (af : Fp), ZD (fun zz_ => Zcv J zz_.1 zz_.2.1 zz_.2.2) n (z, at1, O) = some bi /\ Has α [(3, .map (some V)), (4, aH), (11, aj), (12, i_ (J.length : Int)), (13, i_ z)] /\ FrS [V] an ab /\ Mp .i64 .i64 ab V at1 /\ Ow (Zh .i64) 1 ab aH O af /\ Inn [] an af) be ⟨0, (fun _ => none), [], (.slice none 0 0), [], bF, ha_, (fr_ X.wf), ac, (Ow.nil (by decide)), in_⟩ ?_
  rintro be α ab ⟨z, at1, O, aH, af, bD, a2, Y, aD, am, aa⟩ cy a7
  obtain ⟨bf, cr, rfl, al, aB⟩ := Zt bD
  obtain ⟨β, rfl⟩ := Zi a2
  clear a2
  replace al : Zcv J z at1 O = some cr := al
  unfold Zcv at al
  obtain ⟨aw, aE, ax, rfl⟩ := am.form
  refine sn_ (sq_ fun bT => ?_)
  refine wc_ (z < (J.length : Int)) (fun ai => ?_) fun ai => ?_
  ·have ci := Zf ai al
   refine Zg (bT _ _ (sq_ fun a8 => Zl (sq_ fun bU => g_' ?_)))
   obtain ⟨aV, bj⟩ := Zb ci
   have bn := (bm.fr Y (aX.djn aW.lt))
   refine bn.ix_ 38 aV ai (le_ 3 0 (i_ (gt J z)) bn aV ai (qs_ 1 (Za (bU _ _ (sq_ fun bV => g_' (qs_ 2 (l_' (i_ ((at1 (gt J z)).getD 0)) (ZdF Tryz.prog 212 (.map (some V)) (i_ (gt J z)) false ab) (aD.look (by kernel_rfl) _) (qs_ 1 (Za (bV _ _ (sq_ fun bW => sn_ ?_)))))))))))
   refine wc_ (((at1 (gt J z)).getD 0) = 0) (fun az => ?_) fun az => ?_
   ·have cj := Zf az bj
    refine sq_ fun bX => g_' (qs_ 2 ?_)
    refine ZaK (enc := (Zh .i64)) (sz := 1) Y.wf [(gt J z)] 1 (by decide) (fun _ _ => rfl) (fun _ _ => rfl) rfl (by kernel_rfl) fun cG cB cu ae cC a3 => ?_
    obtain ⟨cz, cD, cA, rfl⟩ := a3.form
    have co := (am.ext ae)
    obtain ⟨bA, ck⟩ := Zb cj
    obtain ⟨cH, cv, bv, b7, ay, aA, aY⟩ := Ow.append (P := Tryz.prog) 8 ae.wf co a3.sq (fun _ _ => rfl) (at_ := #[38, 38]) rfl rfl (by kernel_rfl) (by kernel_rfl) (by decide) (by have := bA; first | omega | (simp only [List.length_cons, List.length_nil] at this ⊢; omega) | (simp at this ⊢; omega))
    obtain ⟨aM, bg, aQ, rfl⟩ := aA.form
    refine ZbX (.slice aM bg aQ) (by kernel_rfl) (b7) ?_
    refine qs_ 1 (Za (bX _ _ (sq_ fun bZ => g_' (qs_ 3 (aA.sq.ln_ 38 ?_)))))
    have cp := ((aD.ext ae).frS ay (aa.djn ac.ltF))
    obtain ⟨cw, b8, bu, b2⟩ := cp.put (P := Tryz.prog) ay.wf (t := 212) (by kernel_rfl) (gt J z) ((O ++ [(gt J z)]).length : Int)
    have aS := bu.frS (W := [V]) (List.mem_singleton.2 rfl)
    refine ek_ b8 (Za (bZ _ _ ?_))
    refine ZA (Zm (ZK ?_))
    refine a8 _ _ (g_' ?_)
    obtain ⟨bB, cl⟩ := Zb ck
    refine w_' ((z + 1)) (Zn (by have := bB; omega)) (qs_ 1 (Za ?_))
    have bh := (t_ Y.n ae.n)
    have bo := (aY.dj (aa.djn ac.ltF) (ac.ltF.le bh))
    have cm := (aA.fr aS (Dj.symm bo))
    obtain rfl := oi_ cl
    exact a7 bf _ _ lt_ ⟨(z + 1), (fun x => if x = (gt J z) then some ((O ++ [(gt J z)]).length : Int) else at1 x), (O ++ [(gt J z)]), (.slice aM bg aQ), bv, aB, ha_, (fs_ X.wf (fs_ X.wf ((fs_ X.wf (fr_ X.wf) Y ir_).extR ae) ay (aa.fresh (Nat.le_refl _))) aS ir_), b2, cm, (Inn.trans (aa.fresh (Nat.le_refl _)) bh aY)⟩
   have b9 := Zj az bj
   refine Zg (bW _ _ (sq_ fun bJ => sq_ fun bK => g_' (qs_ 2 ?_)))
   obtain ⟨ag, b_⟩ := Zb b9
   obtain ⟨cE, b4, aC⟩ := Sq.cut (P := Tryz.prog) am.sq (t := 38) (by kernel_rfl) (lo := (some (i_ ((at1 (gt J z)).getD 0)))) (hi := none) (l := ((at1 (gt J z)).getD 0).toNat) (r := O.length) (ZQ _ (by have := ag; omega)) (rfl) (by have := ag; omega) (by have := ag; omega)
   obtain ⟨aJ, ba, aN, rfl⟩ := aC.form
   refine Zc5 (.slice aJ ba aN) (by kernel_rfl) b4 ?_
   refine aC.ln_ 38 (qs_ 1 (Za (bK _ _ ?_)))
   obtain ⟨aF, bG, ca⟩ := bs_ b_
   refine Zv (fun α aq => Has α [(3, .map (some V)), (4, .slice aw aE ax), (7, i_ ((at1 (gt J z)).getD 0)), (11, aj), (12, i_ (J.length : Int)), (13, i_ z)] /\ FrS [V] ab aq /\ Mp .i64 .i64 aq V aF) (fun _ bL => ?_) (fun α aq hM => ?_)
   ·refine Zl ?_
    obtain ⟨bb, bE⟩ := Zr.1 bG
    refine Zy (fun n α au => ∃ (ad : Int -> Option Int), ∃ (Z : Int), ZD (fun zz_ => Zcp J z at1 O zz_.1 zz_.2) n (ad, Z) = some aF /\ Has α [(3, .map (some V)), (4, .slice aw aE ax), (7, i_ ((at1 (gt J z)).getD 0)), (11, aj), (12, i_ (J.length : Int)), (13, i_ z), (32, .slice aJ ba aN), (33, i_ (((O.take O.length).drop ((at1 (gt J z)).getD 0).toNat).length : Int)), (34, i_ Z)] /\ FrS [V] ab au /\ Mp .i64 .i64 au V ad) bb ⟨at1, 0, bE, ha_, (fr_ Y.wf), aD⟩ ?_
    rintro bb α au ⟨ad, Z, bC, a0, ao, a9⟩ cx bM
    obtain ⟨b3, cq, rfl, ak, a4⟩ := Zt bC
    obtain ⟨β, rfl⟩ := Zi a0
    clear a0
    replace ak : Zcp J z at1 O ad Z = some cq := ak
    unfold Zcp at ak
    refine sn_ (sq_ fun bN => ?_)
    refine wc_ (Z < (((O.take O.length).drop ((at1 (gt J z)).getD 0).toNat).length : Int)) (fun ah => ?_) fun ah => ?_
    ·have cb := Zf ah ak
     refine Zg (bN _ _ (sq_ fun bO => Zl (sq_ fun bP => g_' ?_)))
     obtain ⟨aU, cc⟩ := Zb cb
     have bp := (aa.djn ac.ltF)
     have bl := (aC.fr ao (Dj.symm bp))
     refine bl.ix_ 38 aU ah (le_ 3 0 (i_ (gt ((O.take O.length).drop ((at1 (gt J z)).getD 0).toNat) Z)) bl aU ah (qs_ 1 (Za (bP _ _ (g_' (qs_ 2 ?_))))))
     obtain ⟨ct, b5, br, b1⟩ := a9.del (P := Tryz.prog) ao.wf (t := 212) (by kernel_rfl) (at_ := #[212, 3]) rfl (gt ((O.take O.length).drop ((at1 (gt J z)).getD 0).toNat) Z)
     have bs := br.frS (W := [V]) (List.mem_singleton.2 rfl)
     refine ZbX (.tuple #[]) (by kernel_rfl) (ZhY b5) ?_
     refine Za (bO _ _ (g_' ?_))
     obtain ⟨bx, cd⟩ := Zb cc
     refine w_' ((Z + 1)) (Zn (by have := bx; omega)) (qs_ 1 (Za ?_))
     obtain rfl := oi_ cd
     exact bM b3 _ _ lt_ ⟨(fun x => if x = (gt ((O.take O.length).drop ((at1 (gt J z)).getD 0).toNat) Z) then none else ad x), (Z + 1), a4, ha_, (fs_ Y.wf (fs_ Y.wf (fr_ Y.wf) ao ir_) bs ir_), b1⟩
    have ce := Zj ah ak
    refine ZA (Zm (Zm (ZK ?_)))
    obtain rfl := oi_ ce
    obtain rfl := Zw a4
    exact bL _ _ ⟨ha_, (fs_ Y.wf (fr_ Y.wf) ao ir_), a9⟩
   obtain ⟨aZ, aR, b0⟩ := hM
   obtain ⟨β, rfl⟩ := Zi aZ
   clear aZ
   refine bJ _ _ (g_' (qs_ 2 ?_))
   have bq := (aa.djn ac.ltF)
   have cn := (am.fr aR (Dj.symm bq))
   obtain ⟨cF, b6, a6⟩ := Ow.head (P := Tryz.prog) cn (t := 38) (by kernel_rfl) (hi := (some (i_ ((at1 (gt J z)).getD 0)))) (r := ((at1 (gt J z)).getD 0).toNat) (ZQ _ (by have := ag; omega)) (by have := ag; omega)
   obtain ⟨aK, bc, aO, rfl⟩ := a6.form
   refine Zc5 (.slice aK bc aO) (by kernel_rfl) b6 ?_
   refine qs_ 1 (Za (a8 _ _ (g_' ?_)))
   obtain ⟨bz, cf⟩ := Zb ca
   refine w_' ((z + 1)) (Zn (by have := bz; omega)) (qs_ 1 (Za ?_))
   obtain rfl := oi_ cf
   exact a7 bf _ _ lt_ ⟨(z + 1), aF, (O.take ((at1 (gt J z)).getD 0).toNat), (.slice aK bc aO), af, aB, ha_, (fs_ X.wf (fs_ X.wf (fr_ X.wf) Y ir_) aR ir_), b0, a6, (aa.fresh (Nat.le_refl _))⟩
  have cg := Zj ai al
  refine ZA (Zm (Zm (ZK ?_)))
  obtain rfl := oi_ cg
  obtain rfl := Zw aB
  exact bS _ _ ⟨(.slice aw aE ax), af, ha_, (fs_ X.wf (fr_ X.wf) Y ir_), am, (aa.fresh (Nat.le_refl _))⟩
 obtain ⟨aG, ap, a1, bt, a_, bI⟩ := hM
 obtain ⟨β, rfl⟩ := Zi a1
 clear a1
 obtain ⟨aL, bd, aP, rfl⟩ := a_.form
 refine bQ _ _ (sn_ ?_)
 refine Zp ?_
 refine br_ [.slice aL bd aP] ?_
 obtain rfl := oi_ ch
 exact ⟨(.slice aL bd aP), ap, rfl, (fs_ aI ((f0_ aI).extR X) bt (aX.fresh (Nat.le_refl _))), a_, (bI.fresh X.n)⟩
theorem ZhI {H : AH} {ac : Value} {bQ : Fp} {ae : Value} {bS : Fp} {ad : Value} {bR : Fp} {ab : Value} {bP : Fp} {aa : Value} {bO : Fp} {aD : List (Int)} {aF : List (Int)} {aE : List (Int × Int × Int × Int)} {aC : List (Int)} {aB : List (Int × Int × Int × Int)} {s : Int} {t : Int} {r : List (Int) × Er}
    (z : WF H) (aN : Sq (Zh .u32) 1 H ac aD bQ) (aP : Sq (Zh .u32) 1 H ae aF bS) (aO : Sq Ze 4 H ad aE bR) (aM : Sq (Zh .u32) 1 H ab aC bP) (aL : Sq Ze 4 H aa aB bO) (aR : ZbY aD aF aE aC aB s t = some r) :
    ACalls Tryz.prog 13 #[.agg #[ac, ae, ad, ab, aa], i_ s, i_ t] H fun v H' => ∃ (a_ : Value) (aj : Fp) (bD : Value) (ak : Fp), v = .tuple #[a_, bD] /\ FrS [] H H' /\ Ow (Zh .i64) 1 H' a_ r.1 aj /\ Ev 92 195 H' bD r.2 ak /\ Inn [] H aj /\ Inn [] H ak /\ Dj aj ak := by
 refine ab_ Tryz.func13 ?_
 unfold ZbY at aR
 refine sq_ fun b9 => g_' ?_
 refine Z3 z [ac, ae, ad, ab, aa] (Zd (aN.one1) (Zd (aP.one1) (Zd (aO.one1) (Zd (aM.one1) (Zd (aL.one1) (ZN)))))) (by kernel_rfl) fun aI cK J c9 a6 => ?_
 refine qs_ 2 (Za (b9 _ _ (sq_ fun cd => g_' (lr_ 25 0 (.agg #[ac, ae, ad, ab, aa]) a6 (qs_ 2 ?_)))))
 have bl := (aN.ext J)
 have bm := (aP.ext J)
 have bn := (aO.ext J)
 have bo := (aM.ext J)
 have bp := (aL.ext J)
 obtain ⟨dG, bY, a7⟩ := bs_ aR
 refine ck_ (Zic J.wf bl bm bn bo bp bY) ?_
 rintro _ cN ⟨dy, bL, rfl, O, aZ, b2⟩
 refine qs_ 5 (Za (cd _ _ (sq_ fun ce => sq_ fun aT => g_' (qs_ 1 ?_))))
 rcases (aZ).cases with ⟨ao, rfl⟩ | ⟨ao, av, az, rfl⟩
 ·have cx := Zf ao a7
  refine qs_ 1 (Za (aT _ _ ?_))
  refine wb_ false (fun h => by cases h) fun _ => ?_
  refine Zg (ce _ _ (sq_ fun cf => g_' ?_))
  have bq := (a6.frS O dn_)
  refine lr_ 25 0 (.agg #[ac, ae, ad, ab, aa]) bq ?_
  have br := (bl.fr O dn_)
  have bs := (bm.fr O dn_)
  have bt := (bn.fr O dn_)
  have bu := (bo.fr O dn_)
  have bv := (bp.fr O dn_)
  obtain ⟨bE, bZ, a8⟩ := bs_ cx
  refine ck_ (Zfw O.wf br bs bt bu bv bZ) ?_
  rintro _ cO ⟨du, c7, dz, bM, rfl, V, af, a0, dd, b3, c1⟩
  obtain ⟨cU, dk, cZ, rfl⟩ := af.form
  refine qs_ 5 (Za (cf _ _ (sq_ fun cg => sq_ fun aU => g_' (qs_ 1 ?_))))
  rcases (a0).cases with ⟨ap, rfl⟩ | ⟨ap, aw, aA, rfl⟩
  ·have cy := Zf ap a8
   refine qs_ 1 (Za (aU _ _ ?_))
   refine wb_ false (fun h => by cases h) fun _ => ?_
   refine Zg (cg _ _ (sq_ fun ch => ?_))
   refine ZJ [0, 1, 2, 3, 4, 5, 6, 7, 8, 9, 10, 11, 12, 13, 14, 15] (by kernel_rfl) ?_
   have bw := (bq.frS V dn_)
   refine mr_ 25 0 (.agg #[ac, ae, ad, ab, aa]) bw (es_ 2 ?_)
   obtain ⟨ag, cz⟩ := Zb cy
   refine af.sq.mx_ 38 ag.1 ag.2 (me_ 3 0 (i_ (gt bE.1 s)) af.sq ag.1 ag.2 (es_ 3 ?_))
   obtain ⟨ah, cA⟩ := Zb cz
   refine af.sq.mx_ 38 ah.1 ah.2 (me_ 3 0 (i_ (gt bE.1 t)) af.sq ah.1 ah.2 ?_)
   have bx := (br.fr V dn_)
   have bz := (bs.fr V dn_)
   have bA := (bt.fr V dn_)
   have bB := (bu.fr V dn_)
   have bC := (bv.fr V dn_)
   obtain ⟨cI, b0, a9⟩ := bs_ cA
   refine dk_ (ZhN V.wf bx bz bA bB bC b0) ?_
   rintro _ cP ⟨dv, c8, dA, bN, rfl, X, aq, a1, de, b4, c2⟩
   obtain ⟨cQ, df, cV, rfl⟩ := aq.form
   refine ⟨ZP, ?_⟩
   refine es_ 5 ?_
   refine ZE ?_
   refine ch _ _ (sq_ fun b5 => sq_ fun aS => g_' (qs_ 1 ?_))
   rcases (a1).cases with ⟨al, rfl⟩ | ⟨al, au, ay, rfl⟩
   ·have a4 := Zf al a9
    refine qs_ 1 (Za (aS _ _ ?_))
    refine wb_ false (fun h => by cases h) fun _ => ?_
    refine Zg (b5 _ _ (sq_ fun b6 => sq_ fun b7 => g_' (qs_ 1 (aq.sq.ln_ 38 (qs_ 1 (Za (b7 _ _ ?_)))))))
    refine wc_ ((cI.1.length : Int) = 0) (fun am => ?_) fun am => ?_
    ·have cn := Zf am a4
     refine sq_ fun b8 => g_' (qs_ 1 ?_)
     refine ZaK (enc := (Zh .i64)) (sz := 1) X.wf [s] 1 (by decide) (fun _ _ => rfl) (fun _ _ => rfl) rfl (by kernel_rfl) fun dm bJ cJ bH bT aQ => ?_
     obtain ⟨aG, a2, aJ, rfl⟩ := aQ.form
     refine qs_ 2 (Za (b8 _ _ ?_))
     refine Zp (Zk ?_)
     refine br_ [.slice aG a2 aJ, .nilIface] ?_
     have cj := (t_ (t_ (t_ J.n O.n) V.n) X.n)
     obtain rfl := oi_ cn
     exact ⟨(.slice aG a2 aJ), bJ, (.nilIface), [], rfl, ((fs_ z (fs_ z (fs_ z ((f0_ z).extR J) O in_) V in_) X in_).extR bH), aQ, Ev.nil, (bT.fresh cj), in_, Dj.nil_r⟩
    have co := Zj am a4
    refine Zg (b6 _ _ (sq_ fun b_ => g_' ?_))
    have ba := (bw.frS X dn_)
    refine lr_ 25 0 (.agg #[ac, ae, ad, ab, aa]) ba (qs_ 1 ?_)
    have bb := (bx.fr X dn_)
    have bc := (bz.fr X dn_)
    have bd := (bA.fr X dn_)
    have be := (bB.fr X dn_)
    have bf := (bC.fr X dn_)
    obtain ⟨dC, bU, a5⟩ := bs_ co
    refine ck_ (Zil X.wf bb bc bd be bf aq.sq bU) ?_
    rintro _ bF ⟨dp, c3, dx, c4, rfl, Z, aV, ci, c_, da, c0⟩
    obtain ⟨cR, dg, cW, rfl⟩ := aV.form
    refine qs_ 5 (Za (b_ _ _ (sq_ fun ca => Zl (sq_ fun cb => g_' (qs_ 2 ?_)))))
    rcases (ci).cases with ⟨an, rfl⟩ | ⟨an, dw, dB, rfl⟩
    ·have cp := Zf an a5
     refine s_ck 57 #[.nilIface, .iface 92 (i_ 2)] (by kernel_rfl) (a_isZ) ?_
     rintro _ _ ⟨rfl, rfl⟩
     refine qs_ 1 (Za (cb _ _ ?_))
     refine wb_ false (fun h => by cases h) fun _ => ?_
     refine sn_ ?_
     refine wb_ false (fun h => by cases h) fun _ => ?_
     refine Zg (ca _ _ (sq_ fun cc => ?_))
     refine ZJ [0, 1, 3, 2, 4, 5, 6, 7] (by kernel_rfl) ?_
     have ax := (ba.frS Z dn_)
     refine ZcR (.agg #[ac, ae, ad, ab, aa]) (x := aL_ 25 (pt_ aI 0) bF) (by kernel_rfl) (ax.l_) ?_
     refine mr_ 25 0 (.agg #[ac, ae, ad, ab, aa]) ax (es_ 1 ?_)
     have bg := (bb.fr Z dn_)
     have bh := (bc.fr Z dn_)
     have bi := (bd.fr Z dn_)
     have bj := (be.fr Z dn_)
     have bk := (bf.fr Z dn_)
     obtain ⟨dD, bV, cq⟩ := bs_ cp
     refine dk_ (Zg3 Z.wf bg bh bi bj bk bV) ?_
     rintro dq bG ⟨_, c5, rfl, Y, aW, db⟩
     obtain ⟨cS, dh, cX, rfl⟩ := aW.form
     have cB := (ax.frS Y dn_)
     refine ⟨Zbb (y := aL_ 25 (pt_ aI 0) bG) (by kernel_rfl) (cB.l_) (ZP), ?_⟩
     have cC := (bg.fr Y dn_)
     have cD := (bh.fr Y dn_)
     have cE := (bi.fr Y dn_)
     have cF := (bj.fr Y dn_)
     have cG := (bk.fr Y dn_)
     have cH := (aV.fr Y dn_)
     obtain ⟨dE, bW, cr⟩ := bs_ cq
     refine dk_ (Zhf Y.wf cC cD cE cF cG aW.sq cH.sq bW) ?_
     rintro dr cL ⟨_, c6, rfl, ai, aX, dc⟩
     obtain ⟨cT, di, cY, rfl⟩ := aX.form
     refine ⟨Z0 (by kernel_rfl) (ZP), ?_⟩
     obtain ⟨dF, bX, ct⟩ := bs_ cr
     refine dk_ (ZhF ai.wf aX.sq bX) ?_
     rintro dt cM ⟨_, bK, rfl, bI, aY, b1⟩
     obtain ⟨aH, a3, aK, rfl⟩ := aY.form
     refine ⟨Z0 (by kernel_rfl) (ZP), ?_⟩
     refine es_ 2 ?_
     refine ZE ?_
     refine cc _ _ ?_
     refine Zp ?_
     refine br_ [.slice aH a3 aK, .nilIface] ?_
     have ck := (t_ (t_ (t_ (t_ (t_ (t_ J.n O.n) V.n) X.n) Z.n) Y.n) ai.n)
     obtain rfl := oi_ ct
     exact ⟨(.slice aH a3 aK), bK, (.nilIface), [], rfl, (fs_ z (fs_ z (fs_ z (fs_ z (fs_ z (fs_ z (fs_ z ((f0_ z).extR J) O in_) V in_) X in_) Z in_) Y in_) ai in_) bI in_), aY, Ev.nil, (b1.fresh ck), in_, Dj.nil_r⟩
    exact (ZfT (Zj an a5)).elim
   have cu := Zj al a9
   refine l_' (.bool true) (Zaw Tryz.prog .neq 33 (.tmp 45) (.const .nilIface) (.iface au ay) .nilIface) (ZU (by kernel_rfl)) (Za (aS _ _ ?_))
   refine wb_ true (fun _ => ?_) fun h => by cases h
   refine sn_ ?_
   refine Zp (Zk ?_)
   refine br_ [.slice none 0 0, .iface au ay] ?_
   have cl := (t_ (t_ J.n O.n) V.n)
   obtain rfl := oi_ cu
   exact ⟨(.slice none 0 0), [], (.iface au ay), bN, rfl, (fs_ z (fs_ z (fs_ z ((f0_ z).extR J) O in_) V in_) X in_), (Ow.nil (by decide)), a1, in_, (b4.fresh cl), dn_⟩
  have cv := Zj ap a8
  refine l_' (.bool true) (Zaw Tryz.prog .neq 33 (.tmp 28) (.const .nilIface) (.iface aw aA) .nilIface) (ZU (by kernel_rfl)) (Za (aU _ _ ?_))
  refine wb_ true (fun _ => ?_) fun h => by cases h
  refine sn_ ?_
  refine Zp (Zk ?_)
  refine br_ [.slice none 0 0, .iface aw aA] ?_
  have cm := (t_ J.n O.n)
  obtain rfl := oi_ cv
  exact ⟨(.slice none 0 0), [], (.iface aw aA), bM, rfl, (fs_ z (fs_ z ((f0_ z).extR J) O in_) V in_), (Ow.nil (by decide)), a0, in_, (b3.fresh cm), dn_⟩
 have cw := Zj ao a7
 refine l_' (.bool true) (Zaw Tryz.prog .neq 33 (.tmp 20) (.const .nilIface) (.iface av az) .nilIface) (ZU (by kernel_rfl)) (Za (aT _ _ ?_))
 refine wb_ true (fun _ => ?_) fun h => by cases h
 refine sn_ ?_
 refine Zp (Zk ?_)
 refine br_ [.slice none 0 0, .iface av az] ?_
 obtain rfl := oi_ cw
 exact ⟨(.slice none 0 0), [], (.iface av az), bL, rfl, (fs_ z ((f0_ z).extR J) O in_), (Ow.nil (by decide)), aZ, in_, (b2.fresh J.n), dn_⟩
theorem Zft {H : AH} {aa : Value} {bd : Fp} {ac : Value} {bf : Fp} {ab : Value} {be : Fp} {Z : Value} {bc : Fp} {Y : Value} {bb : Fp} {ai : List (Int)} {ak : List (Int)} {aj : List (Int × Int × Int × Int)} {ag : List (Int)} {af : List (Int × Int × Int × Int)} {r : List (Int × Int × Int)}
    (ap : WF H) (aJ : Sq (Zh .u32) 1 H aa ai bd) (aL : Sq (Zh .u32) 1 H ac ak bf) (aK : Sq Ze 4 H ab aj be) (aI : Sq (Zh .u32) 1 H Z ag bc) (aH : Sq Ze 4 H Y af bb) (aR : Zcw ai ak aj ag af = some r) :
    ACalls Tryz.prog 63 #[.agg #[aa, ac, ab, Z, Y]] H fun v H' => ∃ (aY : Value) (aG : Fp), v = aY /\ FrS [] H H' /\ Ow ZO 3 H' aY r aG /\ Inn [] H aG := by
 refine ab_ Tryz.func63 ?_
 unfold Zcw at aR
 refine sq_ fun bt => g_' ?_
 refine Z3 ap [aa, ac, ab, Z, Y] (Zd (aJ.one1) (Zd (aL.one1) (Zd (aK.one1) (Zd (aI.one1) (Zd (aH.one1) (ZN)))))) (by kernel_rfl) fun a6 bU O b3 aX => ?_
 refine qs_ 1 (Za (bt _ _ (sq_ fun bp => g_' (lr_ 25 0 (.agg #[aa, ac, ab, Z, Y]) aX ?_))))
 have aZ := (aJ.ext O)
 have a0 := (aL.ext O)
 have a1 := (aK.ext O)
 have a2 := (aI.ext O)
 have a3 := (aH.ext O)
 obtain ⟨aq, bm, bG⟩ := bs_ aR
 refine ck_ (ZdJ O.wf aZ a0 a1 a2 a3 bm) ?_
 rintro b7 ah ⟨_, b1, rfl, z, ay, b5⟩
 obtain ⟨a4, bA, a7, rfl⟩ := ay.form
 refine qs_ 1 (Za (bp _ _ (sn_ (sq_ fun bq => sq_ fun br => g_' (qs_ 1 (ay.sq.ln_ 38 (qs_ 1 (Za (br _ _ ?_)))))))))
 obtain ⟨aW, bl, bH⟩ := bs_ bG
 refine Zv (fun α au => ∃ (aA : Value) (an : Fp), Has α [(4, aA)] /\ FrS [] ah au /\ Ow ZO 3 au aA aW an /\ Inn [] ah an) (fun _ bs => ?_) (fun α au hM => ?_)
 ·refine Zl ?_
  obtain ⟨aV, bk⟩ := Zr.1 bl
  refine Zy (fun n α av => ∃ (V : Int), ∃ (ae : List (Int × Int × Int)), ∃ (aB : Value), ∃ (ao : Fp), ZD (fun zz_ => Za6 ai ak aj ag af aq zz_.1 zz_.2) n (V, ae) = some aW /\ Has α [(1, pt_ a6 0), (3, .slice a4 bA a7), (4, aB), (9, i_ (aq.length : Int)), (10, i_ V)] /\ FrS [] ah av /\ Ow ZO 3 av aB ae ao /\ Inn [] ah ao) aV ⟨0, [], (.slice none 0 0), [], bk, ha_, (fr_ z.wf), (Ow.nil (by decide)), in_⟩ ?_
  rintro aV α av ⟨V, ae, aB, ao, bj, aN, J, az, ax⟩ bY bu
  obtain ⟨bB, bT, rfl, ad, aQ⟩ := Zt bj
  obtain ⟨β, rfl⟩ := Zi aN
  clear aN
  replace ad : Za6 ai ak aj ag af aq V ae = some bT := ad
  unfold Za6 at ad
  obtain ⟨a5, bC, a8, rfl⟩ := az.form
  refine sn_ (sq_ fun bv => ?_)
  refine wc_ (V < (aq.length : Int)) (fun aw => ?_) fun aw => ?_
  ·have bI := Zf aw ad
   refine Zg (bv _ _ (sq_ fun bw => Zl (sn_ (g_' (qs_ 1 ?_)))))
   have bL := ((aX.frS z dn_).frS J dn_)
   refine lr_ 25 0 (.agg #[aa, ac, ab, Z, Y]) bL (qs_ 2 ?_)
   have bM := ((aZ.fr z dn_).fr J dn_)
   have bN := ((a0.fr z dn_).fr J dn_)
   have bO := ((a1.fr z dn_).fr J dn_)
   have bP := ((a2.fr z dn_).fr J dn_)
   have bQ := ((a3.fr z dn_).fr J dn_)
   have bR := (ay.fr J dn_)
   obtain ⟨X, bn, bJ⟩ := bs_ bI
   refine ck_ (Zca J.wf bM bN bO bP bQ bR.sq bn) ?_
   rintro _ bV ⟨rfl, al⟩
   refine ZaK (enc := ZO) (sz := 3) al.wf [(X.1, X.2.1, X.2.2)] 1 (by decide) (fun _ _ => rfl) (fun _ _ => rfl) rfl (by kernel_rfl) fun b8 b2 bW am b4 aP => ?_
   obtain ⟨bZ, b6, b0, rfl⟩ := aP.form
   have bS := ((az.fr al dn_).ext am)
   obtain ⟨bh, bK⟩ := Zb bJ
   obtain ⟨b9, bX, ba, bD, a9, aO, bi⟩ := Ow.append (P := Tryz.prog) 24 am.wf bS aP.sq (fun _ _ => rfl) (at_ := #[124, 124]) rfl rfl (by kernel_rfl) (by kernel_rfl) (by decide) (by have := bh; first | omega | (simp only [List.length_cons, List.length_nil] at this ⊢; omega) | (simp at this ⊢; omega))
   obtain ⟨aC, aT, aE, rfl⟩ := aO.form
   refine ZbX (.slice aC aT aE) (by kernel_rfl) (bD) ?_
   refine qs_ 1 (Za (bw _ _ (g_' ?_)))
   obtain ⟨bg, bE⟩ := Zb bK
   refine w_' ((V + 1)) (Zn bg) (qs_ 1 (Za ?_))
   have bx := (t_ (t_ J.n al.n) am.n)
   obtain rfl := oi_ bE
   exact bu bB _ _ lt_ ⟨(V + 1), (ae ++ [(X.1, X.2.1, X.2.2)]), (.slice aC aT aE), ba, aQ, ha_, (fs_ z.wf ((fs_ z.wf (fs_ z.wf (fr_ z.wf) J in_) al in_).extR am) a9 (ax.fresh (Nat.le_refl _))), aO, (Inn.trans (ax.fresh (Nat.le_refl _)) bx bi)⟩
  have bF := Zj aw ad
  refine ZA (Zm (Zm (ZK ?_)))
  obtain rfl := oi_ bF
  obtain rfl := Zw aQ
  exact bs _ _ ⟨(.slice a5 bC a8), ao, ha_, (fs_ z.wf (fr_ z.wf) J in_), az, (ax.fresh (Nat.le_refl _))⟩
 obtain ⟨aA, an, aM, a_, aS, bo⟩ := hM
 obtain ⟨β, rfl⟩ := Zi aM
 clear aM
 obtain ⟨aD, aU, aF, rfl⟩ := aS.form
 refine bq _ _ (sn_ ?_)
 refine Zp ?_
 refine br_ [.slice aD aU aF] ?_
 have bz := (t_ O.n z.n)
 obtain rfl := oi_ bH
 exact ⟨(.slice aD aU aF), an, rfl, (fs_ ap (fs_ ap ((f0_ ap).extR O) z in_) a_ in_), aS, (bo.fresh bz)⟩
theorem Zfu {H : AH} {z : Int} {O : Int} {aa : Int} {J : Int} {V : Int} {ab : Int} {r : Bool}
    (Z : WF H) (ae : ZbH z O aa J V ab = some r) :
    ACalls Tryz.prog 148 #[.agg #[i_ z, i_ O, i_ aa], .agg #[i_ J, i_ V, i_ ab]] H fun v H' => v = .bool r /\ FrS [] H H' := by
 refine ab_ Tryz.func148 ?_
 unfold ZbH at ae
 refine sq_ fun aj => g_' ?_
 refine rl_ Z [i_ z, i_ O, i_ aa] fun aq ao Y aw an => ?_
 refine rl_ Y.wf [i_ J, i_ V, i_ ab] fun au ap X av ag => ?_
 refine qs_ 1 (Za (aj _ _ (sq_ fun af => g_' (qs_ 1 ?_))))
 have ah := (an.ext X)
 refine lr_ 3 0 (i_ z) ah (qs_ 1 (lr_ 3 0 (i_ J) ag ?_))
 refine sb_ (z < J) (fun ac => ?_) fun ac => ?_
 ·have ak := Zf ac ae
  refine qs_ 15 (Za (af _ _ ?_))
  refine Zp ?_
  refine br_ [.bool true] ?_
  obtain rfl := oi_ ak
  exact ⟨rfl, (((f0_ Z).extR Y).extR X)⟩
 have ai := Zj ac ae
 refine qs_ 2 (lr_ 3 0 (i_ z) ah (qs_ 1 (lr_ 3 0 (i_ J) ag ?_)))
 refine sb_ (z = J) (fun ad => ?_) fun ad => ?_
 ·have al := Zf ad ai
  refine qs_ 2 (lr_ 3 1 (i_ O) ah (qs_ 1 (lr_ 3 1 (i_ V) ag (qs_ 4 (Za (af _ _ ?_))))))
  refine Zp ?_
  refine br_ [.bool (decide (O < V))] ?_
  obtain rfl := oi_ al
  exact ⟨rfl, (((f0_ Z).extR Y).extR X)⟩
 have am := Zj ad ai
 refine qs_ 9 (Za (af _ _ ?_))
 refine Zp ?_
 refine br_ [.bool false] ?_
 obtain rfl := oi_ am
 exact ⟨rfl, (((f0_ Z).extR Y).extR X)⟩
end Go.Vd

/-! (KWt11) -/

set_option maxRecDepth 100000
set_option maxHeartbeats 4000000
set_option linter.unusedVariables false
namespace Go.Vd
open Go.Proofs
attribute [local irreducible] Zs Zu aWp
theorem ZfM {H : AH} {ab : Value} {bK : Fp} {l : List (Int × Int × Int)} {Y : Int} {Z : Int} {O : Int} {r : List (Int × Int × Int)}
    (aa : WF H) (ao : Sq ZO 3 H ab l bK) (a_ : ZbL l Y Z O = some r) :
    ACalls Tryz.prog 101 #[ab, .agg #[i_ Y, i_ Z, i_ O]] H fun v H' => ∃ (bo : Value) (aW : Fp), v = bo /\ FrS [] H H' /\ Ow ZO 3 H' bo r aW /\ Inn [] H aW := by
 refine ab_ Tryz.func101 ?_
 unfold ZbL at a_
 refine sq_ fun b6 => g_' ?_
 refine rl_ aa [i_ Y, i_ Z, i_ O] fun aC aR J aY aq => ?_
 refine qs_ 1 (Za (b6 _ _ (sn_ (sq_ fun b0 => ?_))))
 obtain ⟨z, bW, cy⟩ := bs_ a_
 refine Zv (fun α aP => Has α [(0, ab), (3, pt_ aC 0), (5, i_ z)] /\ FrS [] aR aP) (fun _ be => ?_) (fun α aP hM => ?_)
 ·refine Zl ?_
  obtain ⟨bi, bV⟩ := Zr.1 bW
  refine Zy (fun n α aQ => ∃ (ac : Int), ZD (fun zz_ => Zbk l Y Z O zz_) n ac = some z /\ Has α [(0, ab), (3, pt_ aC 0), (5, i_ ac)] /\ FrS [] aR aQ) bi ⟨0, bV, ha_, (fr_ J.wf)⟩ ?_
  rintro bi α aQ ⟨ac, bU, a2, aj⟩ c4 b3
  obtain ⟨cf, cV, rfl, ap, aK⟩ := Zt bU
  obtain ⟨β, rfl⟩ := Zi a2
  clear a2
  replace ap : Zbk l Y Z O ac = some cV := ap
  unfold Zbk at ap
  refine sq_ fun b4 => sq_ fun bf => ?_
  refine ZJ [0, 1, 2, 3, 4, 5, 6, 7, 8, 9, 10, 11] (by kernel_rfl) ?_
  refine es_ 2 ?_
  have aO := ((ao.ext J).fr aj dn_)
  refine aO.mn_ 44 ?_
  refine db_ (ac < (l.length : Int)) (fun an => ?_) fun an => ?_
  ·have cB := Zf an ap
   refine es_ 3 ?_
   obtain ⟨aX, cC⟩ := Zb cB
   refine aO.mx_ 44 aX an (me_ 59 0 (.agg #[i_ ((gt l ac).1), i_ ((gt l ac).2.1), i_ ((gt l ac).2.2)]) aO aX an ?_)
   have cT := (aq.frS aj dn_)
   refine mr_ 59 0 (.agg #[i_ Y, i_ Z, i_ O]) cT ?_
   obtain ⟨cU, bX, bl⟩ := bs_ cC
   refine dk_ (Zfu aj.wf bX) ?_
   rintro _ c3 ⟨rfl, aV⟩
   refine ⟨ZP, ?_⟩
   refine es_ 1 ?_
   refine ZE ?_
   refine bf _ _ ?_
   refine wb_ (cU) (fun aG => ?_) fun aG => ?_
   ·have cD := Zf aG bl
    refine Zg (b4 _ _ (Zl (g_' (qs_ 1 ?_))))
    obtain ⟨bQ, cE⟩ := Zb cD
    refine w_' ((ac + 1)) (Zn (by have := bQ; omega)) (qs_ 1 (Za ?_))
    obtain rfl := oi_ cE
    exact b3 cf _ _ lt_ ⟨(ac + 1), aK, ha_, (fs_ J.wf (fs_ J.wf (fr_ J.wf) aj in_) aV in_)⟩
   have cF := ZL aG bl
   refine ZA (Zm (Zm (ZK ?_)))
   obtain rfl := oi_ cF
   obtain rfl := Zw aK
   exact be _ _ ⟨ha_, (fs_ J.wf (fs_ J.wf (fr_ J.wf) aj in_) aV in_)⟩
  have cG := Zj an ap
  refine es_ 8 ?_
  refine ZE ?_
  refine bf _ _ ?_
  refine wb_ false (fun h => by cases h) fun _ => ?_
  refine ZA (Zm (Zm (ZK ?_)))
  obtain rfl := oi_ cG
  obtain rfl := Zw aK
  exact be _ _ ⟨ha_, (fs_ J.wf (fr_ J.wf) aj in_)⟩
 obtain ⟨a1, V⟩ := hM
 obtain ⟨β, rfl⟩ := Zi a1
 clear a1
 refine b0 _ _ (sn_ (sq_ fun b5 => g_' (qs_ 3 ?_)))
 obtain ⟨al, cH⟩ := Zb cy
 have az := ((ao.ext J).fr V dn_)
 obtain ⟨du, co, bc⟩ := Sq.cut (P := Tryz.prog) az (t := 44) (by kernel_rfl) (lo := none) (hi := (some (i_ z))) (l := 0) (r := z.toNat) (rfl) (ZQ _ (by have := al; omega)) (by have := al; omega) (by have := al; omega)
 obtain ⟨bw, cg, bC, rfl⟩ := bc.form
 refine Zc5 (.slice bw cg bC) (by kernel_rfl) co ?_
 obtain ⟨bR, cI⟩ := Zb cH
 obtain ⟨dv, br, dc, cp, X, aJ, ae⟩ := Ow.append (P := Tryz.prog) 24 V.wf (Ow.nil (enc := ZO) (sz := 3) (by decide)) bc (fun _ _ => rfl) (at_ := #[44, 44]) rfl rfl (by kernel_rfl) (by kernel_rfl) (by decide) (by have := bR; first | omega | (simp only [List.length_cons, List.length_nil] at this ⊢; omega) | (simp at this ⊢; omega))
 obtain ⟨aT, bj, aU, rfl⟩ := aJ.form
 refine ZbX (.slice aT bj aU) (by kernel_rfl) (cp) ?_
 refine qs_ 1 (Za (b5 _ _ (sq_ fun b7 => sq_ fun b8 => ?_)))
 obtain ⟨bk, bd, bm⟩ := bs_ cI
 refine Zv (fun α aS => Has α [(0, ab), (3, pt_ aC 0), (5, i_ z), (6, .slice aT bj aU), (49, .bool bk)] /\ br = aS) (fun _ aL => ?_) (fun α aS hM => ?_)
 ·refine ZJ [0, 1, 2, 3, 4, 5, 6, 7, 8, 9, 10, 11, 12, 13, 14, 15, 16, 17, 18, 19, 20, 21, 22, 23] (by kernel_rfl) ?_
  refine es_ 2 ?_
  have af := (az.fr X dn_)
  refine af.mn_ 44 ?_
  refine db_ (z < (l.length : Int)) (fun ad => ?_) fun ad => ?_
  ·have cJ := Zf ad bd
   refine es_ 3 ?_
   obtain ⟨am, bn⟩ := Zb cJ
   refine af.mx_ 44 am ad (m_' (elp ab 3 z.toNat 0) (ZS Tryz.prog 59 (elp ab 3 z.toNat 0) 0) (Sq.fldq (d := 0) af am ad (by kernel_rfl)) (me_ 3 0 (i_ ((gt l z).1)) af am ad (es_ 1 ?_)))
   have bp := ((aq.frS V dn_).frS X dn_)
   refine mr_ 3 0 (i_ Y) bp ?_
   refine db_ (((gt l z).1) = Y) (fun aH => ?_) fun aH => ?_
   ·have cK := Zf aH bn
    refine es_ 4 (af.mx_ 44 am ad (m_' (elp ab 3 z.toNat 1) (ZS Tryz.prog 59 (elp ab 3 z.toNat 0) 1) (Sq.fldq (d := 1) af am ad (by kernel_rfl)) (me_ 3 1 (i_ ((gt l z).2.1)) af am ad (es_ 1 (mr_ 3 1 (i_ Z) bp (es_ 2 ?_))))))
    refine ZE ?_
    obtain rfl := oi_ cK
    exact aL _ _ ⟨ha_, rfl⟩
   have cL := Zj aH bn
   refine es_ 11 ?_
   refine ZE ?_
   obtain rfl := oi_ cL
   exact aL _ _ ⟨ha_, rfl⟩
  have cM := Zj ad bd
  refine es_ 20 ?_
  refine ZE ?_
  obtain rfl := oi_ cM
  exact aL _ _ ⟨ha_, rfl⟩
 obtain ⟨a3, rfl⟩ := hM
 obtain ⟨β, rfl⟩ := Zi a3
 clear a3
 refine b8 _ _ ?_
 refine wb_ (bk) (fun aI => ?_) fun aI => ?_
 ·have cN := Zf aI bm
  refine sq_ fun b9 => ?_
  refine ZJ [0, 1, 2, 3, 4, 5, 6, 7, 8, 9] (by kernel_rfl) ?_
  refine es_ 1 ?_
  have bq := ((aq.frS V dn_).frS X dn_)
  refine mr_ 3 2 (i_ O) bq (es_ 2 ?_)
  obtain ⟨ak, cq⟩ := Zb cN
  have ay := (az.fr X dn_)
  refine ay.mx_ 44 ak.1 ak.2 (m_' (elp ab 3 z.toNat 2) (ZS Tryz.prog 59 (elp ab 3 z.toNat 0) 2) (Sq.fldq (d := 2) ay ak.1 ak.2 (by kernel_rfl)) (me_ 3 2 (i_ ((gt l z).2.2)) ay ak.1 ak.2 (m_' (i_ (min O ((gt l z).2.2))) (ZfR Tryz.prog [i_ O, i_ ((gt l z).2.2)]) (Zgu _ _) (es_ 1 ?_))))
  obtain ⟨cW, ch, ag, cr⟩ := rb_ 3 2 X.wf bq (i_ (min O ((gt l z).2.2))) [i_ Y, i_ Z, i_ (min O ((gt l z).2.2))]
  refine fk_ ch (ZP) ?_
  refine ZE ?_
  refine b9 _ _ (sq_ fun bY => g_' (qs_ 1 (lr_ 59 0 (.agg #[i_ Y, i_ Z, i_ (min O ((gt l z).2.2))]) cr ?_)))
  refine ZaK (enc := ZO) (sz := 3) ag.wf [(Y, Z, (min O ((gt l z).2.2)))] 1 (by decide) (fun _ _ => rfl) (fun _ _ => rfl) rfl (by kernel_rfl) fun dh c9 cX ah dd a4 => ?_
  obtain ⟨c5, df, c7, rfl⟩ := a4.form
  have bD := (ae.djn (aq.ltF.le V.n))
  have cO := ((aJ.fr ag (Dj.symm bD)).ext ah)
  obtain ⟨bL, ct⟩ := Zb cq
  obtain ⟨di, cY, c_, ci, au, a5, aZ⟩ := Ow.append (P := Tryz.prog) 24 ah.wf cO a4.sq (fun _ _ => rfl) (at_ := #[44, 44]) rfl rfl (by kernel_rfl) (by kernel_rfl) (by decide) (by have := bL; first | omega | (simp only [List.length_cons, List.length_nil] at this ⊢; omega) | (simp at this ⊢; omega))
  obtain ⟨bs, b_, bx, rfl⟩ := a5.form
  refine ZbX (.slice bs b_ bx) (by kernel_rfl) (ci) ?_
  refine qs_ 1 (Za (bY _ _ (sq_ fun bZ => g_' (qs_ 3 ?_))))
  obtain ⟨bM, cu⟩ := Zb ct
  refine w_' ((z + 1)) (Zn (by have := bM; omega)) ?_
  obtain ⟨aF, cv⟩ := Zb cu
  have aw := (t_ J.n V.n)
  have bE := (ae.djn (ao.lt.le aw))
  have cP := (((ay.fr ag (aY.djn ao.lt)).ext ah).fr au bE)
  obtain ⟨dk, cj, ba⟩ := Sq.cut (P := Tryz.prog) cP (t := 44) (by kernel_rfl) (lo := (some (i_ (z + 1)))) (hi := none) (l := (z + 1).toNat) (r := l.length) (ZQ _ (by have := aF; omega)) (rfl) (by have := aF; omega) (by have := aF; omega)
  obtain ⟨bt, ca, bz, rfl⟩ := ba.form
  refine Zc5 (.slice bt ca bz) (by kernel_rfl) cj ?_
  obtain ⟨bN, cw⟩ := Zb cv
  obtain ⟨dm, cZ, bI, ck, bG, a6, bS⟩ := Ow.append (P := Tryz.prog) 24 au.wf a5 ba (fun _ _ => rfl) (at_ := #[44, 44]) rfl rfl (by kernel_rfl) (by kernel_rfl) (by decide) (by have := bN; first | omega | (simp only [List.length_cons, List.length_nil] at this ⊢; omega) | (simp at this ⊢; omega))
  obtain ⟨aA, aM, aD, rfl⟩ := a6.form
  refine ZbX (.slice aA aM aD) (by kernel_rfl) (ck) ?_
  refine qs_ 1 (Za (bZ _ _ ?_))
  refine Zp (Zk ?_)
  refine br_ [.slice aA aM aD] ?_
  have bg := (t_ (t_ (t_ (t_ J.n V.n) X.n) ag.n) ah.n)
  have cb := (t_ (t_ (t_ (t_ (t_ J.n V.n) X.n) ag.n) ah.n) au.n)
  obtain rfl := oi_ cw
  exact ⟨(.slice aA aM aD), bI, rfl, (fs_ aa (fs_ aa ((fs_ aa (fs_ aa (fs_ aa ((f0_ aa).extR J) V in_) X in_) ag (aY.fresh (Nat.le_refl _))).extR ah) au (ae.fresh aw)) bG (Inn.trans (ae.fresh aw) bg aZ)), a6, (Inn.trans (Inn.trans (ae.fresh aw) bg aZ) cb bS)⟩
 have cx := ZL aI bm
 refine Zg (b7 _ _ (sq_ fun b1 => g_' (qs_ 1 ?_)))
 have cQ := ((aq.frS V dn_).frS X dn_)
 refine lr_ 59 0 (.agg #[i_ Y, i_ Z, i_ O]) cQ ?_
 refine ZaK (enc := ZO) (sz := 3) X.wf [(Y, Z, O)] 1 (by decide) (fun _ _ => rfl) (fun _ _ => rfl) rfl (by kernel_rfl) fun dp da c0 ai de a7 => ?_
 obtain ⟨c6, dg, c8, rfl⟩ := a7.form
 have cR := (aJ.ext ai)
 obtain ⟨bO, cz⟩ := Zb cx
 obtain ⟨dq, c1, db, cl, av, a8, a0⟩ := Ow.append (P := Tryz.prog) 24 ai.wf cR a7.sq (fun _ _ => rfl) (at_ := #[44, 44]) rfl rfl (by kernel_rfl) (by kernel_rfl) (by decide) (by have := bO; first | omega | (simp only [List.length_cons, List.length_nil] at this ⊢; omega) | (simp at this ⊢; omega))
 obtain ⟨bu, cc, bA, rfl⟩ := a8.form
 refine ZbX (.slice bu cc bA) (by kernel_rfl) (cl) ?_
 refine qs_ 1 (Za (b1 _ _ (sq_ fun b2 => g_' (qs_ 3 ?_))))
 have ax := (t_ J.n V.n)
 have bF := (ae.djn (ao.lt.le ax))
 have cS := (((az.fr X dn_).ext ai).fr av bF)
 obtain ⟨dr, cm, bb⟩ := Sq.cut (P := Tryz.prog) cS (t := 44) (by kernel_rfl) (lo := (some (i_ z))) (hi := none) (l := z.toNat) (r := l.length) (ZQ _ (by have := al; omega)) (rfl) (by have := al; omega) (by have := al; omega)
 obtain ⟨bv, cd, bB, rfl⟩ := bb.form
 refine Zc5 (.slice bv cd bB) (by kernel_rfl) cm ?_
 obtain ⟨bP, cA⟩ := Zb cz
 obtain ⟨dt, c2, bJ, cn, bH, a9, bT⟩ := Ow.append (P := Tryz.prog) 24 av.wf a8 bb (fun _ _ => rfl) (at_ := #[44, 44]) rfl rfl (by kernel_rfl) (by kernel_rfl) (by decide) (by have := bP; first | omega | (simp only [List.length_cons, List.length_nil] at this ⊢; omega) | (simp at this ⊢; omega))
 obtain ⟨aB, aN, aE, rfl⟩ := a9.form
 refine ZbX (.slice aB aN aE) (by kernel_rfl) (cn) ?_
 refine qs_ 1 (Za (b2 _ _ ?_))
 refine Zp ?_
 refine br_ [.slice aB aN aE] ?_
 have bh := (t_ (t_ (t_ J.n V.n) X.n) ai.n)
 have ce := (t_ (t_ (t_ (t_ J.n V.n) X.n) ai.n) av.n)
 obtain rfl := oi_ cA
 exact ⟨(.slice aB aN aE), bJ, rfl, (fs_ aa (fs_ aa ((fs_ aa (fs_ aa ((f0_ aa).extR J) V in_) X in_).extR ai) av (ae.fresh ax)) bH (Inn.trans (ae.fresh ax) bh a0)), a9, (Inn.trans (Inn.trans (ae.fresh ax) bh a0) ce bT)⟩
theorem Zf4 {H : AH} {am : Value} {bl : Fp} {V : Int} {J : List (Int × Int × Int)} {r : Int × List (Int × Int × Int)}
    (ap : WF H) (aH : Sq ZO 3 H am J bl) (aX : Zb0 V J = some r) :
    ACalls Tryz.prog 40 #[.agg #[i_ V, am]] H fun v H' => ∃ (a_ : Value) (aT : Fp), v = .agg #[i_ r.1, a_] /\ FrS [] H H' /\ Ow ZO 3 H' a_ r.2 aT /\ Inn [] H aT := by
 refine ab_ Tryz.func40 ?_
 unfold Zb0 at aX
 refine sq_ fun bz => g_' ?_
 refine Z3 ap [i_ V, am] (Zd (rfl) (Zd (aH.one1) (ZN))) (by kernel_rfl) fun ch cd ad cj a8 => ?_
 refine rk_ ad.wf [i_ 0, .slice none 0 0] fun aB cb aa bo ax => ?_
 refine Za (bz _ _ (sq_ fun bu => g_' (qs_ 1 ?_)))
 have ba := (a8.ext aa)
 refine lr_ 3 0 (i_ V) ba (qs_ 1 ?_)
 refine rk_ aa.wf [i_ 0, .slice none 0 0] fun ac cc ab ae ay => ?_
 obtain ⟨aq, bM, O, bV⟩ := ra_ 46 0 ab.wf ay [i_ V, .slice none 0 0] [i_ V, .slice none 0 0]
 refine ek_ bM (Za (bu _ _ (sq_ fun bv => sq_ fun bw => g_' (qs_ 1 ?_))))
 have bi := (ae.djn (a8.ltF.le aa.n))
 have b6 := ((ba.ext ab).frS O bi)
 refine lr_ 44 1 (am) b6 ?_
 have aL := (t_ ad.n aa.n)
 have aQ := (ae.djn (aH.lt.le aL))
 have bb := ((((aH.ext ad).ext aa).ext ab).fr O aQ)
 refine bb.ln_ 44 (qs_ 1 (Za (bw _ _ ?_)))
 obtain ⟨a7, br, bW⟩ := bs_ aX
 refine Zv (fun α au => ∃ (aO : Value) (aw : Fp), Has α [(2, pt_ aB 0), (3, pt_ ac 0)] /\ FrS [ac] aq au /\ Ow ZO 3 au aO a7 aw /\ Row au ac [i_ V, aO] /\ Inn [] aq aw) (fun _ bx => ?_) (fun α au hM => ?_)
 ·refine Zl ?_
  obtain ⟨a5, bq⟩ := Zr.1 br
  refine Zy (fun n α av => ∃ (z : Int), ∃ (ai : List (Int × Int × Int)), ∃ (aP : Value), ∃ (ak : Fp), ZD (fun zz_ => Zbp J zz_.1 zz_.2) n (z, ai) = some a7 /\ Has α [(2, pt_ aB 0), (3, pt_ ac 0), (10, am), (11, i_ (J.length : Int)), (12, i_ z)] /\ FrS [ac] aq av /\ Ow ZO 3 av aP ai ak /\ Row av ac [i_ V, aP] /\ Inn [] aq ak) a5 ⟨0, [], (.slice none 0 0), [], bq, ha_, (fr_ O.wf), (Ow.nil (by decide)), bV, in_⟩ ?_
  rintro a5 α av ⟨z, ai, aP, ak, bp, aW, X, ag, aJ, a0⟩ cg a1
  obtain ⟨a6, b9, rfl, an, aI⟩ := Zt bp
  obtain ⟨β, rfl⟩ := Zi aW
  clear aW
  replace an : Zbp J z ai = some b9 := an
  unfold Zbp at an
  obtain ⟨aA, aM, aD, rfl⟩ := ag.form
  refine sn_ (sq_ fun bA => ?_)
  refine wc_ (z < (J.length : Int)) (fun al => ?_) fun al => ?_
  ·have bX := Zf al an
   refine Zg (bA _ _ (sq_ fun a2 => Zl (sq_ fun bB => g_' ?_)))
   obtain ⟨aU, a9⟩ := Zb bX
   have bc := (bb.fr X aQ)
   refine bc.ix_ 44 aU al (le_ 59 0 (.agg #[i_ ((gt J z).1), i_ ((gt J z).2.1), i_ ((gt J z).2.2)]) bc aU al ?_)
   refine rk_ X.wf [i_ 0, i_ 0, i_ 0] fun ci ce Y af bY => ?_
   obtain ⟨cf, bN, Z, aN⟩ := ra_ 59 0 Y.wf bY [i_ ((gt J z).1), i_ ((gt J z).2.1), i_ ((gt J z).2.2)] [i_ ((gt J z).1), i_ ((gt J z).2.1), i_ ((gt J z).2.2)]
   refine ek_ bN (Za (bB _ _ (sq_ fun bC => g_' (qs_ 1 (lr_ 3 0 (i_ ((gt J z).1)) aN (qs_ 1 (lr_ 3 1 (i_ ((gt J z).2.1)) aN (qs_ 1 (Za (bC _ _ ?_))))))))))
   refine ZcS (((gt J z).1) = ((gt J z).2.1)) (by kernel_rfl) rfl (fun aG => ?_) (fun aG => ?_)
   ·have bZ := Zj aG a9
    refine g_' (qs_ 1 ?_)
    have bJ := (t_ O.n X.n)
    have bj := (af.djn (ay.ltF.le bJ))
    have bd := ((aJ.ext Y).frS Z bj)
    refine lr_ 44 1 (.slice aA aM aD) bd (lr_ 59 0 (.agg #[i_ ((gt J z).1), i_ ((gt J z).2.1), i_ ((gt J z).2.2)]) aN ?_)
    have b7 := ((ag.ext Y).fr Z (af.djn ag.lt))
    obtain ⟨b8, bs, bO⟩ := bs_ bZ
    refine ck_ (ZfM Z.wf b7.sq bs) ?_
    rintro ck b_ ⟨_, bk, rfl, aE, a3, aY⟩
    obtain ⟨az, aK, aC, rfl⟩ := a3.form
    refine qs_ 1 ?_
    have b0 := (bd.frS aE dn_)
    obtain ⟨ca, bK, aR, bP⟩ := rb_ 44 1 aE.wf b0 (.slice az aK aC) [i_ V, .slice az aK aC]
    refine ek_ bK (Za (a2 _ _ (g_' ?_)))
    obtain ⟨bm, bQ⟩ := Zb bO
    refine w_' ((z + 1)) (Zn (by have := bm; omega)) (qs_ 1 (Za ?_))
    have bE := (t_ (t_ (t_ O.n X.n) Y.n) Z.n)
    have bf := (aY.djn (ay.ltF.le bE))
    have b1 := (a3.fr aR (Dj.symm bf))
    have bF := (t_ (t_ X.n Y.n) Z.n)
    obtain rfl := oi_ bQ
    exact a1 a6 _ _ lt_ ⟨(z + 1), b8, (.slice az aK aC), bk, aI, ha_, (fs_ O.wf (fs_ O.wf (fs_ O.wf ((fs_ O.wf (fr_ O.wf) X ir_).extR Y) Z (af.fresh X.n)) aE in_) aR ir_), b1, bP, (aY.fresh bF)⟩
   have bR := Zf aG a9
   refine Zg (a2 _ _ (g_' ?_))
   obtain ⟨bn, bS⟩ := Zb bR
   refine w_' ((z + 1)) (Zn (by have := bn; omega)) (qs_ 1 (Za ?_))
   have b2 := ((ag.ext Y).fr Z (af.djn ag.lt))
   have bG := (t_ O.n X.n)
   have bg := (af.djn (ay.ltF.le bG))
   have b3 := ((aJ.ext Y).frS Z bg)
   obtain rfl := oi_ bS
   exact a1 a6 _ _ lt_ ⟨(z + 1), ai, (.slice aA aM aD), ak, aI, ha_, (fs_ O.wf ((fs_ O.wf (fr_ O.wf) X ir_).extR Y) Z (af.fresh X.n)), b2, b3, (a0.fresh (Nat.le_refl _))⟩
  have bT := Zj al an
  refine ZA (Zm (Zm (ZK ?_)))
  obtain rfl := oi_ bT
  obtain rfl := Zw aI
  exact bx _ _ ⟨(.slice aA aM aD), ak, ha_, (fs_ O.wf (fr_ O.wf) X ir_), ag, aJ, (a0.fresh (Nat.le_refl _))⟩
 obtain ⟨aO, aw, aV, aF, a4, bD, aZ⟩ := hM
 obtain ⟨β, rfl⟩ := Zi aV
 clear aV
 obtain ⟨ah, ao, aj, rfl⟩ := a4.form
 refine bv _ _ (sq_ fun bt => g_' (lr_ 46 0 (.agg #[i_ V, .slice ah ao aj]) bD ?_))
 have b4 := (((ax.ext ab).frS O (ae.djn ax.ltF)).frS aF (ae.djn ax.ltF))
 obtain ⟨be, bL, aS, bU⟩ := ra_ 46 0 aF.wf b4 [i_ V, .slice ah ao aj] [i_ V, .slice ah ao aj]
 refine ek_ bL (Za (bt _ _ ?_))
 refine Zp ?_
 refine ZX (vs := [.agg #[i_ V, .slice ah ao aj]]) (ZC (Eq.trans (b := aL_ 46 (pt_ aB 0) be) (by kernel_rfl) (bU.l_)) (rfl)) ?_
 have bH := (t_ ab.n O.n)
 have bh := (aZ.djn (ax.ltF.le bH))
 have b5 := (a4.fr aS (Dj.symm bh))
 have bI := (t_ (t_ (t_ ad.n aa.n) ab.n) O.n)
 obtain rfl := oi_ bW
 exact ⟨(.slice ah ao aj), aw, rfl, (fs_ ap (fs_ ap (fs_ ap ((((f0_ ap).extR ad).extR aa).extR ab) O (ae.fresh aL)) aF (ae.fresh aL)) aS (bo.fresh ad.n)), b5, (aZ.fresh bI)⟩
theorem Ze9 {H : AH} {am : Value} {cq : Fp} {aE : Value} {ct : Fp} {aD : Value} {cr : Fp} {aC : Value} {cp : Fp} {aB : Value} {co : Fp} {ab : List (Int)} {aO : List (Int)} {aN : List (Int × Int × Int × Int)} {aJ : List (Int)} {aI : List (Int × Int × Int × Int)} {r : Int × List (Int × Int × Int)}
    (aq : WF H) (aA : Sq (Zh .u32) 1 H am ab cq) (aY : Sq (Zh .u32) 1 H aE aO ct) (aX : Sq Ze 4 H aD aN cr) (aW : Sq (Zh .u32) 1 H aC aJ cp) (aV : Sq Ze 4 H aB aI co) (bx : Zbm ab aO aN aJ aI = some r) :
    ACalls Tryz.prog 16 #[.agg #[am, aE, aD, aC, aB]] H fun v H' => ∃ (bK : Value) (bq : Fp), v = .agg #[i_ r.1, bK] /\ FrS [] H H' /\ Ow ZO 3 H' bK r.2 bq /\ Inn [] H bq := by
 refine ab_ Tryz.func16 ?_
 unfold Zbm at bx
 refine sq_ fun cQ => g_' ?_
 refine Z3 aq [am, aE, aD, aC, aB] (Zd (aA.one1) (Zd (aY.one1) (Zd (aX.one1) (Zd (aW.one1) (Zd (aV.one1) (ZN)))))) (by kernel_rfl) fun b2 ea ai ej a1 => ?_
 refine rk_ ai.wf [i_ 0, .slice none 0 0] fun a5 d2 ad cA a2 => ?_
 refine Za (cQ _ _ (sq_ fun cM => g_' (qs_ 1 ?_)))
 have bR := (a1.ext ad)
 refine lr_ 22 0 (am) bR ?_
 have bS := ((aA.ext ai).ext ad)
 refine bS.ln_ 22 (qs_ 1 ?_)
 refine rk_ ad.wf [i_ 0, .slice none 0 0] fun au d8 ae ak ao => ?_
 obtain ⟨d_, dh, Z, dF⟩ := ra_ 46 0 ae.wf ao [i_ (ab.length : Int), .slice none 0 0] [i_ (ab.length : Int), .slice none 0 0]
 refine ek_ dh (Za (cM _ _ (sq_ fun cO => sq_ fun cP => g_' ?_)))
 have bi := (ak.djn (a1.ltF.le ad.n))
 have bT := ((bR.ext ae).frS Z bi)
 refine lr_ 25 0 (.agg #[am, aE, aD, aC, aB]) bT ?_
 have ap := (t_ ai.n ad.n)
 have bj := (ak.djn (aA.lt.le ap))
 have bU := ((bS.ext ae).fr Z bj)
 have bk := (ak.djn (aY.lt.le ap))
 have bV := ((((aY.ext ai).ext ad).ext ae).fr Z bk)
 have bl := (ak.djn (aX.lt.le ap))
 have bW := ((((aX.ext ai).ext ad).ext ae).fr Z bl)
 have bm := (ak.djn (aW.lt.le ap))
 have bX := ((((aW.ext ai).ext ad).ext ae).fr Z bm)
 have bn := (ak.djn (aV.lt.le ap))
 have bY := ((((aV.ext ai).ext ad).ext ae).fr Z bn)
 obtain ⟨V, cH, dG⟩ := bs_ bx
 refine ck_ (Zft Z.wf bU bV bW bX bY cH) ?_
 rintro es aK ⟨_, eh, rfl, z, bb, cI⟩
 obtain ⟨b1, db, b4, rfl⟩ := bb.form
 refine bb.sq.ln_ 124 (qs_ 1 (Za (cP _ _ ?_)))
 obtain ⟨bG, cD, dH⟩ := bs_ dG
 refine Zv (fun α aL => ∃ (be : Value) (a9 : Fp), Has α [(2, pt_ a5 0), (3, pt_ au 0)] /\ FrS [au] aK aL /\ Ow ZO 3 aL be bG a9 /\ Row aL au [i_ (ab.length : Int), be] /\ Inn [] aK a9) (fun _ cR => ?_) (fun α aL hM => ?_)
 ·refine Zl ?_
  obtain ⟨bE, cC⟩ := Zr.1 cD
  have dV := (dF.frS z dn_)
  refine Zy (fun n α aM => ∃ (J : Int), ∃ (aw : List (Int × Int × Int)), ∃ (bf : Value), ∃ (ay : Fp), ZD (fun zz_ => ZaL ab aO aN aJ aI V zz_.1 zz_.2) n (J, aw) = some bG /\ Has α [(1, pt_ b2 0), (2, pt_ a5 0), (3, pt_ au 0), (12, .slice b1 db b4), (13, i_ (V.length : Int)), (14, i_ J)] /\ FrS [au] aK aM /\ Ow ZO 3 aM bf aw ay /\ Row aM au [i_ (ab.length : Int), bf] /\ Inn [] aK ay) bE ⟨0, [], (.slice none 0 0), [], cC, ha_, (fr_ z.wf), (Ow.nil (by decide)), dV, in_⟩ ?_
  rintro bE α aM ⟨J, aw, bf, ay, cB, bu, O, an, bc, aG⟩ eb bB
  obtain ⟨bF, dX, rfl, aF, ba⟩ := Zt cB
  obtain ⟨β, rfl⟩ := Zi bu
  clear bu
  replace aF : ZaL ab aO aN aJ aI V J aw = some dX := aF
  unfold ZaL at aF
  obtain ⟨a4, bd, a6, rfl⟩ := an.form
  refine sn_ (sq_ fun cS => ?_)
  refine wc_ (J < (V.length : Int)) (fun az => ?_) fun az => ?_
  ·have dI := Zf az aF
   refine Zg (cS _ _ (sq_ fun bA => Zl (sq_ fun cJ => g_' (qs_ 1 ?_))))
   obtain ⟨br, di⟩ := Zb dI
   have b5 := (cI.djn (ao.ltF.le Z.n))
   have bL := (bb.fr O (Dj.symm b5))
   refine bL.sq.ix_ 124 br az (le_ 127 0 (.agg #[i_ ((gt V J).1), i_ ((gt V J).2.1), i_ ((gt V J).2.2)]) bL.sq br az ?_)
   refine rk_ O.wf [i_ 0, i_ 0, i_ 0] fun ed dY Y aj bH => ?_
   refine qs_ 1 ?_
   obtain ⟨dZ, dc, X, dk⟩ := ra_ 127 0 Y.wf bH [i_ ((gt V J).1), i_ ((gt V J).2.1), i_ ((gt V J).2.2)] [i_ ((gt V J).1), i_ ((gt V J).2.1), i_ ((gt V J).2.2)]
   refine ek_ dc (Za (cJ _ _ (sq_ fun cK => g_' ?_)))
   have cU := (t_ (t_ (t_ (t_ ad.n ae.n) Z.n) z.n) O.n)
   have b6 := (aj.djn (a1.ltF.le cU))
   have bM := ((((bT.frS z dn_).frS O bi).ext Y).frS X b6)
   refine lr_ 25 0 (.agg #[am, aE, aD, aC, aB]) bM (qs_ 1 ?_)
   have aH := (t_ (t_ (t_ (t_ (t_ ai.n ad.n) ae.n) Z.n) z.n) O.n)
   have b7 := (aj.djn (aA.lt.le aH))
   have bN := ((((bU.fr z dn_).fr O bj).ext Y).fr X b7)
   have b8 := (aj.djn (aY.lt.le aH))
   have dJ := ((((bV.fr z dn_).fr O bk).ext Y).fr X b8)
   have b9 := (aj.djn (aX.lt.le aH))
   have dK := ((((bW.fr z dn_).fr O bl).ext Y).fr X b9)
   have b_ := (aj.djn (aW.lt.le aH))
   have dL := ((((bX.fr z dn_).fr O bm).ext Y).fr X b_)
   have ca := (aj.djn (aV.lt.le aH))
   have dM := ((((bY.fr z dn_).fr O bn).ext Y).fr X ca)
   obtain ⟨ac, cE, dm⟩ := bs_ di
   refine ck_ (ZaX X.wf bN dJ dK dL dM cE) ?_
   rintro _ d0 ⟨rfl, aa⟩
   refine rk_ aa.wf [.int .u32 0, .int .u64 0, .int .u32 0, .int .u32 0] fun ee d1 ag al dp => ?_
   obtain ⟨d3, dd, ah, bI⟩ := ra_ 62 0 ag.wf dp [.int .u32 ac.1, .int .u64 ac.2.1, .int .u32 ac.2.2.1, .int .u32 ac.2.2.2] [.int .u32 ac.1, .int .u64 ac.2.1, .int .u32 ac.2.2.1, .int .u32 ac.2.2.2]
   refine ek_ dd (Za (cK _ _ (sq_ fun cL => g_' (lr_ 62 0 (.agg #[.int .u32 ac.1, .int .u64 ac.2.1, .int .u32 ac.2.2.1, .int .u32 ac.2.2.2]) bI ?_))))
   obtain ⟨dW, cF, bJ⟩ := bs_ dm
   refine ck_ (ZdR ah.wf cF) ?_
   rintro _ d4 ⟨rfl, af⟩
   refine Za (cL _ _ ?_)
   refine wb_ (dW) (fun a_ => ?_) fun a_ => ?_
   ·have dq := Zf a_ bJ
    refine ZJ [0, 1, 2, 3, 4, 5, 6, 7, 8, 9, 10, 11, 12, 13, 14, 15, 16, 17, 18, 19, 20, 21, 22, 23] (by kernel_rfl) ?_
    refine es_ 1 ?_
    have cV := (t_ (t_ Z.n z.n) O.n)
    have cb := (aj.djn (ao.ltF.le cV))
    have cW := (t_ (t_ (t_ (t_ (t_ Z.n z.n) O.n) Y.n) X.n) aa.n)
    have cc := (al.djn (ao.ltF.le cW))
    have bO := ((((((bc.ext Y).frS X cb).frS aa dn_).ext ag).frS ah cc).frS af dn_)
    refine mr_ 44 1 (.slice a4 bd a6) bO (es_ 1 ?_)
    have cX := (t_ (t_ (t_ (t_ (t_ (t_ (t_ ad.n ae.n) Z.n) z.n) O.n) Y.n) X.n) aa.n)
    have cd := (al.djn (a1.ltF.le cX))
    have bP := ((((bM.frS aa dn_).ext ag).frS ah cd).frS af dn_)
    refine mr_ 22 0 (am) bP (es_ 1 ?_)
    have cY := (t_ X.n aa.n)
    have ce := (al.djn (bH.ltF.le cY))
    have bQ := ((((dk.frS aa dn_).ext ag).frS ah ce).frS af dn_)
    refine mr_ 3 0 (i_ ((gt V J).1)) bQ ?_
    obtain ⟨aT, dr⟩ := Zb dq
    have cZ := (t_ (t_ (t_ (t_ (t_ (t_ (t_ (t_ ai.n ad.n) ae.n) Z.n) z.n) O.n) Y.n) X.n) aa.n)
    have cf := (al.djn (aA.lt.le cZ))
    have a3 := ((((bN.fr aa dn_).ext ag).fr ah cf).fr af dn_)
    refine a3.mx_ 22 aT.1 aT.2 (me_ 60 0 (.int .u32 (gt ab ((gt V J).1))) a3 aT.1 aT.2 ?_)
    obtain ⟨cu, dt⟩ := Zb dr
    refine d_w ((gt ab ((gt V J).1))) (k := .i64) (x := (gt ab ((gt V J).1))) (by kernel_rfl) (Zn cu) ?_
    refine es_ 1 (mr_ 22 0 (am) bP (es_ 1 (mr_ 3 1 (i_ ((gt V J).2.1)) bQ ?_)))
    obtain ⟨aU, du⟩ := Zb dt
    refine a3.mx_ 22 aU.1 aU.2 (me_ 60 0 (.int .u32 (gt ab ((gt V J).2.1))) a3 aU.1 aU.2 ?_)
    obtain ⟨cv, dv⟩ := Zb du
    refine d_w ((gt ab ((gt V J).2.1))) (k := .i64) (x := (gt ab ((gt V J).2.1))) (by kernel_rfl) (Zn cv) ?_
    refine es_ 1 ?_
    have dN := (bI.frS af dn_)
    refine mr_ 35 1 (.int .u64 ac.2.1) dN ?_
    obtain ⟨cw, dw⟩ := Zb dv
    refine d_w (ac.2.1) (k := .i64) (x := ac.2.1) (by kernel_rfl) (Zn cw) ?_
    refine es_ 1 ?_
    refine Zjj (enc := ZO) (sz := 3) af.wf [((gt ab ((gt V J).1)), (gt ab ((gt V J).2.1)), ac.2.1)] 1 (by decide) (fun _ _ => rfl) (fun _ _ => rfl) rfl (by kernel_rfl) fun eo eg d5 av ek bv => ?_
    obtain ⟨ec, em, ef, rfl⟩ := bv.form
    have c0 := (t_ (t_ Y.n X.n) aa.n)
    have cg := (al.djn (an.lt.le c0))
    have dO := (((((((an.ext Y).fr X (aj.djn an.lt)).fr aa dn_).ext ag).fr ah cg).fr af dn_).ext av)
    obtain ⟨cx, dx⟩ := Zb dw
    obtain ⟨ep, d6, cm, de, a7, bw, bs⟩ := Ow.append (P := Tryz.prog) 24 av.wf dO bv.sq (fun _ _ => rfl) (at_ := #[44, 44]) rfl rfl (by kernel_rfl) (by kernel_rfl) (by decide) (by have := cx; first | omega | (simp only [List.length_cons, List.length_nil] at this ⊢; omega) | (simp at this ⊢; omega))
    obtain ⟨aP, aZ, aR, rfl⟩ := bw.form
    refine Zjv (.slice aP aZ aR) (by kernel_rfl) (de) (ZP) ?_
    refine es_ 1 ?_
    have c1 := (t_ Z.n z.n)
    have bh := (aG.djn (ao.ltF.le c1))
    have dP := ((bO.ext av).frS a7 bh)
    obtain ⟨d7, df, bo, dy⟩ := rb_ 44 1 a7.wf dP (.slice aP aZ aR) [i_ (ab.length : Int), .slice aP aZ aR]
    refine fk_ df (ZP) ?_
    refine ZE ?_
    refine bA _ _ (g_' ?_)
    obtain ⟨cy, dz⟩ := Zb dx
    refine w_' ((J + 1)) (Zn (by have := cy; omega)) (qs_ 1 (Za ?_))
    have c2 := (t_ (t_ (t_ O.n Y.n) X.n) aa.n)
    have c3 := (t_ (t_ (t_ (t_ (t_ (t_ (t_ (t_ (t_ Z.n z.n) O.n) Y.n) X.n) aa.n) ag.n) ah.n) af.n) av.n)
    have ch := (bs.dj bh (ao.ltF.le c3))
    have dQ := (bw.fr bo (Dj.symm ch))
    have c4 := (t_ (t_ (t_ (t_ (t_ (t_ (t_ O.n Y.n) X.n) aa.n) ag.n) ah.n) af.n) av.n)
    obtain rfl := oi_ dz
    exact bB bF _ _ lt_ ⟨(J + 1), (aw ++ [((gt ab ((gt V J).1)), (gt ab ((gt V J).2.1)), ac.2.1)]), (.slice aP aZ aR), cm, ba, ha_, (fs_ z.wf (fs_ z.wf ((fs_ z.wf (fs_ z.wf ((fs_ z.wf (fs_ z.wf ((fs_ z.wf (fr_ z.wf) O ir_).extR Y) X (aj.fresh O.n)) aa in_).extR ag) ah (al.fresh c2)) af in_).extR av) a7 (aG.fresh (Nat.le_refl _))) bo ir_), dQ, dy, (Inn.trans (aG.fresh (Nat.le_refl _)) c4 bs)⟩
   have dA := ZL a_ bJ
   refine Zg (bA _ _ (g_' ?_))
   obtain ⟨cz, dB⟩ := Zb dA
   refine w_' ((J + 1)) (Zn (by have := cz; omega)) (qs_ 1 (Za ?_))
   have c5 := (t_ (t_ (t_ O.n Y.n) X.n) aa.n)
   have c6 := (t_ (t_ Y.n X.n) aa.n)
   have ci := (al.djn (an.lt.le c6))
   have dR := ((((((an.ext Y).fr X (aj.djn an.lt)).fr aa dn_).ext ag).fr ah ci).fr af dn_)
   have c7 := (t_ (t_ Z.n z.n) O.n)
   have cj := (aj.djn (ao.ltF.le c7))
   have c8 := (t_ (t_ (t_ (t_ (t_ Z.n z.n) O.n) Y.n) X.n) aa.n)
   have ck := (al.djn (ao.ltF.le c8))
   have dS := ((((((bc.ext Y).frS X cj).frS aa dn_).ext ag).frS ah ck).frS af dn_)
   obtain rfl := oi_ dB
   exact bB bF _ _ lt_ ⟨(J + 1), aw, (.slice a4 bd a6), ay, ba, ha_, (fs_ z.wf (fs_ z.wf ((fs_ z.wf (fs_ z.wf ((fs_ z.wf (fr_ z.wf) O ir_).extR Y) X (aj.fresh O.n)) aa in_).extR ag) ah (al.fresh c5)) af in_), dR, dS, (aG.fresh (Nat.le_refl _))⟩
  have dC := Zj az aF
  refine ZA (Zm (Zm (ZK ?_)))
  obtain rfl := oi_ dC
  obtain rfl := Zw ba
  exact cR _ _ ⟨(.slice a4 bd a6), ay, ha_, (fs_ z.wf (fr_ z.wf) O ir_), an, bc, (aG.fresh (Nat.le_refl _))⟩
 obtain ⟨be, a9, bt, ax, bD, cT, el⟩ := hM
 obtain ⟨β, rfl⟩ := Zi bt
 clear bt
 obtain ⟨b0, c9, b3, rfl⟩ := bD.form
 refine cO _ _ (sq_ fun cN => g_' (lr_ 46 0 (.agg #[i_ (ab.length : Int), .slice b0 c9 b3]) cT ?_))
 obtain ⟨bg, cG, dD⟩ := bs_ dH
 refine ck_ (Zf4 ax.wf bD.sq cG) ?_
 rintro _ d9 ⟨eq, cn, rfl, a8, bC, bz⟩
 obtain ⟨aQ, a0, aS, rfl⟩ := bC.form
 have dT := (((((a2.ext ae).frS Z (ak.djn a2.ltF)).frS z dn_).frS ax (ak.djn a2.ltF)).frS a8 dn_)
 obtain ⟨bZ, dg, bp, dE⟩ := ra_ 46 0 a8.wf dT [i_ bg.1, .slice aQ a0 aS] [i_ bg.1, .slice aQ a0 aS]
 refine ek_ dg (Za (cN _ _ ?_))
 refine Zp ?_
 refine ZX (vs := [.agg #[i_ bg.1, .slice aQ a0 aS]]) (ZC (Eq.trans (b := aL_ 46 (pt_ a5 0) bZ) (by kernel_rfl) (dE.l_)) (rfl)) ?_
 have c_ := (t_ (t_ (t_ ae.n Z.n) z.n) ax.n)
 have cl := (bz.djn (a2.ltF.le c_))
 have dU := (bC.fr bp (Dj.symm cl))
 have da := (t_ (t_ (t_ (t_ (t_ ai.n ad.n) ae.n) Z.n) z.n) ax.n)
 obtain rfl := oi_ dD
 exact ⟨(.slice aQ a0 aS), cn, rfl, (fs_ aq (fs_ aq (fs_ aq (fs_ aq (fs_ aq ((((f0_ aq).extR ai).extR ad).extR ae) Z (ak.fresh ap)) z in_) ax (ak.fresh ap)) a8 in_) bp (cA.fresh ai.n)), dU, (bz.fresh da)⟩
end Go.Vd

/-! (KWt12) -/

set_option maxRecDepth 100000
set_option maxHeartbeats 4000000
set_option linter.unusedVariables false
namespace Go.Vd
open Go.Proofs
attribute [local irreducible] Zs Zu aWp
theorem Zev {H : AH} {aV : Value} {dq : Fp} {ae : Int} {J : List (Int × Int × Int)} {r : List (List (Int))}
    (a5 : WF H) (bf : Sq ZO 3 H aV J dq) (co : ZaE ae J = some r) :
    ACalls Tryz.prog 17 #[.agg #[i_ ae, aV]] H fun v H' => ∃ (cM : Value) (bY : Fp), v = cM /\ FrS [] H H' /\ Nst (CR.sl (Zh .u64) 1) H' cM r bY /\ Inn [] H bY := by
 refine ab_ Tryz.func17 ?_
 unfold ZaE at co
 refine sq_ fun fo => g_' ?_
 refine Z3 a5 [i_ ae, aV] (Zd (rfl) (Zd (bf.one1) (ZN))) (by kernel_rfl) fun a8 g6 aw hE a3 => ?_
 refine qs_ 1 (Za (fo _ _ (sq_ fun eS => g_' (qs_ 1 (lr_ 3 0 (i_ ae) a3 ?_)))))
 obtain ⟨bZ, fV⟩ := Zb co
 refine Zej (t := 49) (m := 24) (l := ae) (c := ae) (enc := id) (sz := 1) aw.wf [.slice none 0 0] (by kernel_rfl) (by decide) bZ.1 (Int.le_refl _) (by omega) (by have := bZ; omega) (by kernel_rfl) fun hI aJ aP al aE aF => ?_
 replace aF := Nst.zeros (C := (CR.sl (Zh .u64) 1)) (x0 := ([] : List (Int))) aF (fun _ => Zgo (Ow.nil (by decide)))
 obtain ⟨Y, aa, Z, rfl⟩ := aF.form
 have aF : Nst (CR.sl (Zh .u64) 1) aP (.slice Y aa Z) (List.replicate ae.toNat ([] : List (Int))) aJ := aF
 refine qs_ 1 (Za (eS _ _ (sq_ fun e0 => sq_ fun e3 => g_' (qs_ 1 (aF.ln_ 49 (qs_ 1 (Za (e3 _ _ ?_))))))))
 obtain ⟨bT, eM, gh⟩ := bs_ fV
 refine Zv (fun α aS => ∃ (ad : Fp), Has α [(1, pt_ a8 0), (3, .slice Y aa Z)] /\ FrS aJ aP aS /\ Nst (CR.sl (Zh .u64) 1) aS (.slice Y aa Z) bT ad /\ Inn aJ aP ad) (fun _ fh => ?_) (fun α aS hM => ?_)
 ·refine Zl ?_
  obtain ⟨cG, ea⟩ := Zr.1 eM
  refine Zy (fun n α bo => ∃ (ac : Int), ∃ (ap : List (List (Int))), ∃ (bb : Fp), ZD (fun zz_ => Zaa ae zz_.1 zz_.2) n (ac, ap) = some bT /\ Has α [(1, pt_ a8 0), (3, .slice Y aa Z), (15, i_ ((List.replicate ae.toNat ([] : List (Int))).length : Int)), (16, i_ ac)] /\ FrS aJ aP bo /\ Nst (CR.sl (Zh .u64) 1) bo (.slice Y aa Z) ap bb /\ Inn aJ aP bb) cG ⟨0, (List.replicate ae.toNat ([] : List (Int))), aJ, ea, ha_, (fr_ al.wf), aF, ir_⟩ ?_
  rintro cG α bo ⟨ac, ap, bb, dI, cj, aI, bP, bi⟩ hb fj
  obtain ⟨fL, g1, rfl, a2, cn⟩ := Zt dI
  obtain ⟨β, rfl⟩ := Zi cj
  clear cj
  replace a2 : Zaa ae ac ap = some g1 := a2
  unfold Zaa at a2
  refine sn_ (sq_ fun fk => ?_)
  refine wc_ (ac < ((List.replicate ae.toNat ([] : List (Int))).length : Int)) (fun bB => ?_) fun bB => ?_
  ·have gG := Zf bB a2
   refine Zg (fk _ _ (sq_ fun fm => Zl (sn_ (sq_ fun fs => g_' (qs_ 3 ?_)))))
   have gV := ((a3.ext al).frS aI (aE.djn a3.ltF))
   refine lr_ 3 0 (i_ ae) gV ?_
   obtain ⟨b4, gH⟩ := Zb gG
   refine Zej (t := 48) (m := 8) (l := ae) (c := ae) (enc := (Zh .u64)) (sz := 1) aI.wf (0 : Int) (by kernel_rfl) (by decide) b4.1 (Int.le_refl _) (by omega) (by have := b4; omega) (by kernel_rfl) fun hJ dp cR ba b7 aW => ?_
   obtain ⟨bp, bR, bq, rfl⟩ := aW.form
   have aW : Ow (Zh .u64) 1 cR (.slice bp bR bq) (List.replicate ae.toNat (0 : Int)) dp := aW
   obtain ⟨ay, gI⟩ := Zb gH
   have cP := (bP.ext ba)
   refine cP.ix_ 49 ay.1 ay.2 ?_
   have dd := (b7.djn bP.lt)
   obtain ⟨a7, aD, fR, az, bg, dC⟩ := Nst.store (P := Tryz.prog) (t := 48) (off := 0) ba.wf cP ay.1 ay.2 (.slice bp bR bq) [.slice bp bR bq] (by kernel_rfl) (by kernel_rfl) rfl (List.replicate ae.toNat (0 : Int)) (Nat.le_of_ble_eq_true rfl) (Dj.symm dd) aW.lt (fun cs_ f_ hr_ _ => by obtain ⟨_, rfl, _⟩ := Zat hr_; exact ⟨_, Zgo aW, fun _ h => .inr h⟩)
   have cQ := dC.grow2 (b7.fresh (Nat.le_refl _)) ba.n
   refine ek_ fR (Za (fs _ _ (sq_ fun ft => g_' (qs_ 2 ?_))))
   obtain ⟨b5, gJ⟩ := Zb gI
   refine bg.ix_ 49 ay.1 b5 ?_
   obtain ⟨hn, hA, dS, eI, d2, ey⟩ := bg.kid ay.1 b5
   obtain ⟨gT, rfl, el⟩ := Zat dS
   have cv : KdS (Zh .u64) 1 a7 gT (gt (ap.set ac.toNat (List.replicate ae.toNat (0 : Int))) ac) aD (.slice Y aa Z) 1 ac.toNat 0 := ⟨el.sq.up eI bg.lt, ey 0 _ rfl (by decide)⟩
   obtain ⟨c1, fM, c2, rfl⟩ := cv.sq.form
   refine l_' (.slice c1 fM c2) (aL_ 48 (elp (.slice Y aa Z) 1 ac.toNat 0) a7) (d2 _ _ _ _ (by kernel_rfl)) (cv.sq.ln_ 48 (qs_ 1 (Za (ft _ _ ?_))))
   obtain ⟨bS, eJ, fS⟩ := bs_ gJ
   refine Zv (fun α bj => Has α [(1, pt_ a8 0), (3, .slice Y aa Z), (15, i_ ((List.replicate ae.toNat ([] : List (Int))).length : Int)), (16, i_ ac)] /\ FrS aD a7 bj /\ Nst (CR.sl (Zh .u64) 1) bj (.slice Y aa Z) bS aD) (fun _ eQ => ?_) (fun α bj hM => ?_)
   ·refine Zl ?_
    obtain ⟨cz, d6⟩ := Zr.1 eJ
    refine Zy (fun n α aN => ∃ (ak : List (List (Int))), ∃ (aj : Int), ZD (fun zz_ => Zam ae ac ap zz_.1 zz_.2) n (ak, aj) = some bS /\ Has α [(1, pt_ a8 0), (3, .slice Y aa Z), (4, i_ ac), (15, i_ ((List.replicate ae.toNat ([] : List (Int))).length : Int)), (16, i_ ac), (29, i_ ((gt (ap.set ac.toNat (List.replicate ae.toNat (0 : Int))) ac).length : Int)), (30, i_ aj)] /\ FrS aD a7 aN /\ Nst (CR.sl (Zh .u64) 1) aN (.slice Y aa Z) ak aD) cz ⟨(ap.set ac.toNat (List.replicate ae.toNat (0 : Int))), 0, d6, ha_, (fr_ az.wf), bg⟩ ?_
    rintro cz α aN ⟨ak, aj, dD, b9, a9, aM⟩ g7 cp
    obtain ⟨cA, gW, rfl, aX, bC⟩ := Zt dD
    obtain ⟨β, rfl⟩ := Zi b9
    clear b9
    replace aX : Zam ae ac ap ak aj = some gW := aX
    unfold Zam at aX
    refine sn_ (sq_ fun eR => ?_)
    refine wc_ (aj < ((gt (ap.set ac.toNat (List.replicate ae.toNat (0 : Int))) ac).length : Int)) (fun bt => ?_) fun bt => ?_
    ·have cJ := Zf bt aX
     refine Zg (eR _ _ (sq_ fun cq => Zl (sn_ (sn_ ?_))))
     refine ZcS (ac = aj) (by kernel_rfl) rfl (fun bu => ?_) (fun bu => ?_)
     ·have fT := Zj bu cJ
      refine g_' (qs_ 2 ?_)
      obtain ⟨aT, fU⟩ := Zb fT
      refine aM.ix_ 49 ay.1 aT ?_
      obtain ⟨hd, hr, dJ, ez, dT, em⟩ := aM.kid ay.1 aT
      obtain ⟨gK, rfl, eb⟩ := Zat dJ
      have bE : KdS (Zh .u64) 1 aN gK (gt ak ac) aD (.slice Y aa Z) 1 ac.toNat 0 := ⟨eb.sq.up ez aM.lt, em 0 _ rfl (by decide)⟩
      obtain ⟨cS, fy, c3, rfl⟩ := bE.sq.form
      refine l_' (.slice cS fy c3) (aL_ 48 (elp (.slice Y aa Z) 1 ac.toNat 0) aN) (dT _ _ _ _ (by kernel_rfl)) (qs_ 1 ?_)
      obtain ⟨bc, fW⟩ := Zb fU
      refine bE.sq.ix_ 48 bc.1 bc.2 ?_
      obtain ⟨g2, fN, df, d3, hF⟩ := Nst.inner Zfe (P := Tryz.prog) (t := 35) (o2 := 0) a9.wf aM ay.1 aT bE rfl bc.1 bc.2 (.int .u64 18446744073709551615) [.int .u64 18446744073709551615] (by kernel_rfl) (by kernel_rfl) rfl 18446744073709551615 (Nat.le_of_ble_eq_true rfl) (by kernel_rfl)
      have hB : ac < ((ak.set ac.toNat ((gt ak ac).set aj.toNat 18446744073709551615)).length : Int) := by rw [List.length_set]; exact aT
      have ho : ((gt ak ac).set aj.toNat 18446744073709551615) = (gt (ak.set ac.toNat ((gt ak ac).set aj.toNat 18446744073709551615)) ac) := (ZeQ ay.1 aT _).symm
      refine ek_ fN (Za (cq _ _ (g_' ?_)))
      obtain ⟨dr, fX⟩ := Zb fW
      refine w_' ((aj + 1)) (Zn (by have := dr; omega)) (qs_ 1 (Za ?_))
      obtain rfl := oi_ fX
      exact cp cA _ _ lt_ ⟨(ak.set ac.toNat ((gt ak ac).set aj.toNat 18446744073709551615)), (aj + 1), bC, ha_, (fs_ az.wf (fs_ az.wf (fr_ az.wf) a9 ir_) df ir_), d3⟩
     have fY := Zf bu cJ
     refine Zg (cq _ _ (g_' ?_))
     obtain ⟨dt, fZ⟩ := Zb fY
     refine w_' ((aj + 1)) (Zn dt) (qs_ 1 (Za ?_))
     obtain rfl := oi_ fZ
     exact cp cA _ _ lt_ ⟨ak, (aj + 1), bC, ha_, (fs_ az.wf (fr_ az.wf) a9 ir_), aM⟩
    have f0 := Zj bt aX
    refine ZA (Zm (Zm (ZK ?_)))
    obtain rfl := oi_ f0
    obtain rfl := Zw bC
    exact eQ _ _ ⟨ha_, (fs_ az.wf (fr_ az.wf) a9 ir_), aM⟩
   obtain ⟨b8, de, fu⟩ := hM
   obtain ⟨β, rfl⟩ := Zi b8
   clear b8
   refine fm _ _ (g_' ?_)
   obtain ⟨du, f1⟩ := Zb fS
   refine w_' ((ac + 1)) (Zn (by have := du; omega)) (qs_ 1 (Za ?_))
   obtain rfl := oi_ f1
   exact fj fL _ _ lt_ ⟨(ac + 1), bS, aD, cn, ha_, (fs_ al.wf (fs_ al.wf ((fs_ al.wf (fr_ al.wf) aI ir_).extR ba) az (Inn.trans ir_ (Nat.le_refl _) bi)) de (Inn.trans (Inn.trans ir_ (Nat.le_refl _) bi) aI.n cQ)), fu, (Inn.trans (Inn.trans ir_ (Nat.le_refl _) bi) aI.n cQ)⟩
  have f2 := Zj bB a2
  refine ZA (Zm (Zm (ZK ?_)))
  obtain rfl := oi_ f2
  obtain rfl := Zw cn
  exact fh _ _ ⟨bb, ha_, (fs_ al.wf (fr_ al.wf) aI ir_), bP, (Inn.trans ir_ (Nat.le_refl _) bi)⟩
 obtain ⟨ad, ci, av, cy, bh⟩ := hM
 obtain ⟨β, rfl⟩ := Zi ci
 clear ci
 refine e0 _ _ (sq_ fun eT => sq_ fun eU => g_' (qs_ 1 ?_))
 have gU := ((a3.ext al).frS av (aE.djn a3.ltF))
 refine lr_ 44 1 (aV) gU ?_
 have bX := (aE.djn (bf.lt.le aw.n))
 have cN := (((bf.ext aw).ext al).fr av bX)
 refine cN.ln_ 44 (qs_ 1 (Za (eU _ _ ?_)))
 obtain ⟨ao, eK, f3⟩ := bs_ gh
 refine Zv (fun α aO => Has α [(3, .slice Y aa Z)] /\ FrS ad aS aO /\ Nst (CR.sl (Zh .u64) 1) aO (.slice Y aa Z) ao ad) (fun _ eV => ?_) (fun α aO hM => ?_)
 ·refine Zl ?_
  obtain ⟨cB, d7⟩ := Zr.1 eK
  refine Zy (fun n α bk => ∃ (af : List (List (Int))), ∃ (z : Int), ZD (fun zz_ => Z9 J zz_.1 zz_.2) n (af, z) = some ao /\ Has α [(3, .slice Y aa Z), (45, aV), (46, i_ (J.length : Int)), (47, i_ z)] /\ FrS ad aS bk /\ Nst (CR.sl (Zh .u64) 1) bk (.slice Y aa Z) af ad) cB ⟨bT, 0, d7, ha_, (fr_ av.wf), cy⟩ ?_
  rintro cB α bk ⟨af, z, dE, ca, aH, cx⟩ g8 eW
  obtain ⟨fz, gX, rfl, aY, ck⟩ := Zt dE
  obtain ⟨β, rfl⟩ := Zi ca
  clear ca
  replace aY : Z9 J af z = some gX := aY
  unfold Z9 at aY
  refine sn_ (sq_ fun eX => ?_)
  refine wc_ (z < (J.length : Int)) (fun aU => ?_) fun aU => ?_
  ·have f4 := Zf aU aY
   refine Zg (eX _ _ (sq_ fun eY => Zl (sq_ fun eZ => g_' ?_)))
   obtain ⟨b0, f5⟩ := Zb f4
   have fA := (t_ aw.n al.n)
   have db := (bh.dj bX (bf.lt.le fA))
   have cO := (cN.fr aH db)
   refine cO.ix_ 44 b0 aU (le_ 59 0 (.agg #[i_ ((gt J z).1), i_ ((gt J z).2.1), i_ ((gt J z).2.2)]) cO b0 aU ?_)
   refine rk_ aH.wf [i_ 0, i_ 0, i_ 0] fun hc g3 br b6 f6 => ?_
   obtain ⟨a6, fO, bs, a4⟩ := ra_ 59 0 br.wf f6 [i_ ((gt J z).1), i_ ((gt J z).2.1), i_ ((gt J z).2.2)] [i_ ((gt J z).1), i_ ((gt J z).2.1), i_ ((gt J z).2.2)]
   refine ek_ fO (Za (eZ _ _ ?_))
   refine ZJ [0, 1, 2, 3, 4, 5, 6, 7, 8, 9, 10, 11, 12, 13, 14, 15, 16, 17, 18, 19, 20, 21] (by kernel_rfl) ?_
   refine es_ 2 (mr_ 3 0 (i_ ((gt J z).1)) a4 ?_)
   obtain ⟨am, f7⟩ := Zb f5
   have dc := (b6.djn (cy.lt.le aH.n))
   have aG := ((cx.ext br).fr bs dc)
   refine aG.mx_ 49 am.1 am.2 ?_
   obtain ⟨he, hs, dK, eA, dU, eo⟩ := aG.kid am.1 am.2
   obtain ⟨gL, rfl, ec⟩ := Zat dK
   have bF : KdS (Zh .u64) 1 a6 gL (gt af ((gt J z).1)) ad (.slice Y aa Z) 1 ((gt J z).1).toNat 0 := ⟨ec.sq.up eA aG.lt, eo 0 _ rfl (by decide)⟩
   obtain ⟨cT, fB, c4, rfl⟩ := bF.sq.form
   refine m_' (.slice cT fB c4) (aL_ 48 (elp (.slice Y aa Z) 1 ((gt J z).1).toNat 0) a6) (dU _ _ _ _ (by kernel_rfl)) (es_ 1 (mr_ 3 1 (i_ ((gt J z).2.1)) a4 (es_ 2 (mr_ 3 0 (i_ ((gt J z).1)) a4 (aG.mx_ 49 am.1 am.2 ?_)))))
   obtain ⟨hf, ht, dL, eB, dV, ep⟩ := aG.kid am.1 am.2
   obtain ⟨gM, rfl, ed⟩ := Zat dL
   have bG : KdS (Zh .u64) 1 a6 gM (gt af ((gt J z).1)) ad (.slice Y aa Z) 1 ((gt J z).1).toNat 0 := ⟨ed.sq.up eB aG.lt, ep 0 _ rfl (by decide)⟩
   obtain ⟨cU, fC, c5, rfl⟩ := bG.sq.form
   refine m_' (.slice cU fC c5) (aL_ 48 (elp (.slice Y aa Z) 1 ((gt J z).1).toNat 0) a6) (dV _ _ _ _ (by kernel_rfl)) (es_ 1 (mr_ 3 1 (i_ ((gt J z).2.1)) a4 ?_))
   obtain ⟨aB, f8⟩ := Zb f7
   refine bG.sq.mx_ 48 aB.1 aB.2 (me_ 35 0 (.int .u64 (gt (gt af ((gt J z).1)) ((gt J z).2.1))) bG.sq aB.1 aB.2 (es_ 1 (mr_ 3 2 (i_ ((gt J z).2.2)) a4 ?_)))
   obtain ⟨dv, f9⟩ := Zb f8
   refine d_w ((gt J z).2.2) (k := .u64) (x := (gt J z).2.2) (by kernel_rfl) (Zag dv) ?_
   refine m_' (.int .u64 (min (gt (gt af ((gt J z).1)) ((gt J z).2.1)) ((gt J z).2.2))) (ZfR Tryz.prog [.int .u64 (gt (gt af ((gt J z).1)) ((gt J z).2.1)), .int .u64 ((gt J z).2.2)]) (Zgu _ _) (bF.sq.mx_ 48 aB.1 aB.2 ?_)
   obtain ⟨g4, fP, dg, d4, hG⟩ := Nst.inner Zfe (P := Tryz.prog) (t := 35) (o2 := 0) bs.wf aG am.1 am.2 bF rfl aB.1 aB.2 (.int .u64 (min (gt (gt af ((gt J z).1)) ((gt J z).2.1)) ((gt J z).2.2))) [.int .u64 (min (gt (gt af ((gt J z).1)) ((gt J z).2.1)) ((gt J z).2.2))] (by kernel_rfl) (by kernel_rfl) rfl (min (gt (gt af ((gt J z).1)) ((gt J z).2.1)) ((gt J z).2.2)) (Nat.le_of_ble_eq_true rfl) (by kernel_rfl)
   have hC : (gt J z).1 < ((af.set ((gt J z).1).toNat ((gt af ((gt J z).1)).set ((gt J z).2.1).toNat (min (gt (gt af ((gt J z).1)) ((gt J z).2.1)) ((gt J z).2.2)))).length : Int) := by rw [List.length_set]; exact am.2
   have hp : ((gt af ((gt J z).1)).set ((gt J z).2.1).toNat (min (gt (gt af ((gt J z).1)) ((gt J z).2.1)) ((gt J z).2.2))) = (gt (af.set ((gt J z).1).toNat ((gt af ((gt J z).1)).set ((gt J z).2.1).toNat (min (gt (gt af ((gt J z).1)) ((gt J z).2.1)) ((gt J z).2.2)))) ((gt J z).1)) := (ZeQ am.1 am.2 _).symm
   refine fk_ fP (ZP) ?_
   refine ZE ?_
   refine eY _ _ (g_' ?_)
   obtain ⟨dw, gb⟩ := Zb f9
   refine w_' ((z + 1)) (Zn (by have := dw; omega)) (qs_ 1 (Za ?_))
   obtain rfl := oi_ gb
   exact eW fz _ _ lt_ ⟨(af.set ((gt J z).1).toNat ((gt af ((gt J z).1)).set ((gt J z).2.1).toNat (min (gt (gt af ((gt J z).1)) ((gt J z).2.1)) ((gt J z).2.2)))), (z + 1), ck, ha_, (fs_ av.wf (fs_ av.wf ((fs_ av.wf (fr_ av.wf) aH ir_).extR br) bs (b6.fresh aH.n)) dg ir_), d4⟩
  have gc := Zj aU aY
  refine ZA (Zm (Zm (ZK ?_)))
  obtain rfl := oi_ gc
  obtain rfl := Zw ck
  exact eV _ _ ⟨ha_, (fs_ av.wf (fr_ av.wf) aH ir_), cx⟩
 obtain ⟨b_, aC, cw⟩ := hM
 obtain ⟨β, rfl⟩ := Zi b_
 clear b_
 refine eT _ _ (sq_ fun e1 => sq_ fun e2 => g_' (qs_ 1 (cw.ln_ 49 (qs_ 1 (Za (e2 _ _ ?_))))))
 obtain ⟨cH, eL, gd⟩ := bs_ f3
 refine Zv (fun α bl => Has α [(3, .slice Y aa Z)] /\ FrS ad aO bl /\ Nst (CR.sl (Zh .u64) 1) bl (.slice Y aa Z) cH ad) (fun _ e4 => ?_) (fun α bl hM => ?_)
 ·refine Zl ?_
  obtain ⟨cC, d8⟩ := Zr.1 eL
  refine Zy (fun n α aQ => ∃ (an : List (List (Int))), ∃ (X : Int), ZD (fun zz_ => Zao ao zz_.1 zz_.2) n (an, X) = some cH /\ Has α [(3, .slice Y aa Z), (74, i_ (ao.length : Int)), (75, i_ X)] /\ FrS ad aO aQ /\ Nst (CR.sl (Zh .u64) 1) aQ (.slice Y aa Z) an ad) cC ⟨ao, 0, d8, ha_, (fr_ aC.wf), cw⟩ ?_
  rintro cC α aQ ⟨an, X, dF, cc, aA, bN⟩ g9 e5
  obtain ⟨fD, gY, rfl, aZ, cl⟩ := Zt dF
  obtain ⟨β, rfl⟩ := Zi cc
  clear cc
  replace aZ : Zao ao an X = some gY := aZ
  unfold Zao at aZ
  refine sn_ (sq_ fun e6 => ?_)
  refine wc_ (X < (ao.length : Int)) (fun bv => ?_) fun bv => ?_
  ·have gf := Zf bv aZ
   refine Zg (e6 _ _ (sq_ fun e8 => Zl (sn_ (sq_ fun e9 => g_' (qs_ 1 (bN.ln_ 49 (qs_ 1 (Za (e9 _ _ ?_)))))))))
   obtain ⟨bU, eN, gg⟩ := bs_ gf
   refine Zv (fun α bm => Has α [(3, .slice Y aa Z), (74, i_ (ao.length : Int)), (75, i_ X)] /\ FrS ad aQ bm /\ Nst (CR.sl (Zh .u64) 1) bm (.slice Y aa Z) bU ad) (fun _ e_ => ?_) (fun α bm hM => ?_)
   ·refine Zl ?_
    obtain ⟨cD, d9⟩ := Zr.1 eN
    refine Zy (fun n α aR => ∃ (aq : List (List (Int))), ∃ (O : Int), ZD (fun zz_ => Zan an X zz_.1 zz_.2) n (aq, O) = some bU /\ Has α [(3, .slice Y aa Z), (8, i_ X), (74, i_ (ao.length : Int)), (75, i_ X), (79, i_ (an.length : Int)), (80, i_ O)] /\ FrS ad aQ aR /\ Nst (CR.sl (Zh .u64) 1) aR (.slice Y aa Z) aq ad) cD ⟨an, 0, d9, ha_, (fr_ aA.wf), bN⟩ ?_
    rintro cD α aR ⟨aq, O, dG, ce, au, bO⟩ g_ fa
    obtain ⟨fE, gZ, rfl, a0, cm⟩ := Zt dG
    obtain ⟨β, rfl⟩ := Zi ce
    clear ce
    replace a0 : Zan an X aq O = some gZ := a0
    unfold Zan at a0
    refine sn_ (sq_ fun fb => ?_)
    refine wc_ (O < (an.length : Int)) (fun bw => ?_) fun bw => ?_
    ·have gi := Zf bw a0
     refine Zg (fb _ _ (sq_ fun fc => Zl (sn_ (sq_ fun fd => g_' (qs_ 1 (bO.ln_ 49 (qs_ 1 (Za (fd _ _ ?_)))))))))
     obtain ⟨bV, eO, gj⟩ := bs_ gi
     refine Zv (fun α bn => Has α [(3, .slice Y aa Z), (8, i_ X), (74, i_ (ao.length : Int)), (75, i_ X), (79, i_ (an.length : Int)), (80, i_ O)] /\ FrS ad aR bn /\ Nst (CR.sl (Zh .u64) 1) bn (.slice Y aa Z) bV ad) (fun _ fe => ?_) (fun α bn hM => ?_)
     ·refine Zl ?_
      obtain ⟨cE, d_⟩ := Zr.1 eO
      refine Zy (fun n α ai => ∃ (V : List (List (Int))), ∃ (ab : Int), ZD (fun zz_ => Z8 X aq O zz_.1 zz_.2) n (V, ab) = some bV /\ Has α [(3, .slice Y aa Z), (8, i_ X), (9, i_ O), (74, i_ (ao.length : Int)), (75, i_ X), (79, i_ (an.length : Int)), (80, i_ O), (84, i_ (aq.length : Int)), (85, i_ ab)] /\ FrS ad aR ai /\ Nst (CR.sl (Zh .u64) 1) ai (.slice Y aa Z) V ad) cE ⟨aq, 0, d_, ha_, (fr_ au.wf), bO⟩ ?_
      rintro cE α ai ⟨V, ab, dH, cg, a_, ag⟩ ha cr
      obtain ⟨cF, g0, rfl, a1, bD⟩ := Zt dH
      obtain ⟨β, rfl⟩ := Zi cg
      clear cg
      replace a1 : Z8 X aq O V ab = some g0 := a1
      unfold Z8 at a1
      refine sn_ (sq_ fun ff => ?_)
      refine wc_ (ab < (aq.length : Int)) (fun bx => ?_) fun bx => ?_
      ·have gk := Zf bx a1
       refine Zg (ff _ _ (sq_ fun ct => Zl (sn_ (sq_ fun fg => ?_))))
       obtain ⟨cI, eP, cK⟩ := bs_ gk
       refine Zv (fun α bW => Has α [(3, .slice Y aa Z), (8, i_ X), (9, i_ O), (10, i_ ab), (74, i_ (ao.length : Int)), (75, i_ X), (79, i_ (an.length : Int)), (80, i_ O), (84, i_ (aq.length : Int)), (85, i_ ab), (105, .bool cI)] /\ ai = bW) (fun _ cu => ?_) (fun α bW hM => ?_)
       ·refine g_' (qs_ 2 ?_)
        obtain ⟨bd, gl⟩ := Zb eP
        refine ag.ix_ 49 bd.1 bd.2 ?_
        obtain ⟨hg, hu, dM, eC, dW, eq⟩ := ag.kid bd.1 bd.2
        obtain ⟨gN, rfl, ee⟩ := Zat dM
        have bH : KdS (Zh .u64) 1 ai gN (gt V O) ad (.slice Y aa Z) 1 O.toNat 0 := ⟨ee.sq.up eC ag.lt, eq 0 _ rfl (by decide)⟩
        obtain ⟨cV, fF, c6, rfl⟩ := bH.sq.form
        refine l_' (.slice cV fF c6) (aL_ 48 (elp (.slice Y aa Z) 1 O.toNat 0) ai) (dW _ _ _ _ (by kernel_rfl)) (qs_ 1 ?_)
        obtain ⟨aK, cL⟩ := Zb gl
        refine bH.sq.ix_ 48 aK.1 aK.2 (le_ 35 0 (.int .u64 (gt (gt V O) X)) bH.sq aK.1 aK.2 ?_)
        refine Zgt ((gt (gt V O) X) = 18446744073709551615) (by kernel_rfl) (fun bz => ?_) (fun bz => ?_)
        ·have gm := Zf bz cL
         refine qs_ 10 (Za ?_)
         obtain rfl := oi_ gm
         exact cu _ _ ⟨ha_, rfl⟩
        have gn := Zj bz cL
        refine qs_ 3 ?_
        obtain ⟨b1, go⟩ := Zb gn
        refine ag.ix_ 49 aK.1 b1 ?_
        obtain ⟨hh, hv, dN, eD, dX, es⟩ := ag.kid aK.1 b1
        obtain ⟨gO, rfl, ef⟩ := Zat dN
        have bI : KdS (Zh .u64) 1 ai gO (gt V X) ad (.slice Y aa Z) 1 X.toNat 0 := ⟨ef.sq.up eD ag.lt, es 0 _ rfl (by decide)⟩
        obtain ⟨cW, fG, c7, rfl⟩ := bI.sq.form
        refine l_' (.slice cW fG c7) (aL_ 48 (elp (.slice Y aa Z) 1 X.toNat 0) ai) (dX _ _ _ _ (by kernel_rfl)) (qs_ 1 ?_)
        obtain ⟨be, gp⟩ := Zb go
        refine bI.sq.ix_ 48 be.1 be.2 (le_ 35 0 (.int .u64 (gt (gt V X) ab)) bI.sq be.1 be.2 (qs_ 2 (Za ?_)))
        obtain rfl := oi_ gp
        exact cu _ _ ⟨ha_, rfl⟩
       obtain ⟨ch, rfl⟩ := hM
       obtain ⟨β, rfl⟩ := Zi ch
       clear ch
       refine fg _ _ ?_
       refine wb_ (cI) (fun bA => ?_) fun bA => ?_
       ·have gq := Zf bA cK
        refine ZJ [0, 1, 2, 3, 4, 5, 6, 7, 8, 9, 10, 11, 12, 13, 14, 15, 16, 17, 18, 19, 20, 21, 22, 23, 24, 25, 26, 27, 28, 29] (by kernel_rfl) ?_
        refine es_ 2 ?_
        obtain ⟨ah, gr⟩ := Zb gq
        refine ag.mx_ 49 ah.1 ah.2 ?_
        obtain ⟨hj, hw, dO, eE, dY, et⟩ := ag.kid ah.1 ah.2
        obtain ⟨gP, rfl, eg⟩ := Zat dO
        have bJ : KdS (Zh .u64) 1 ai gP (gt V O) ad (.slice Y aa Z) 1 O.toNat 0 := ⟨eg.sq.up eE ag.lt, et 0 _ rfl (by decide)⟩
        obtain ⟨cX, fH, c8, rfl⟩ := bJ.sq.form
        refine m_' (.slice cX fH c8) (aL_ 48 (elp (.slice Y aa Z) 1 O.toNat 0) ai) (dY _ _ _ _ (by kernel_rfl)) (es_ 3 (ag.mx_ 49 ah.1 ah.2 ?_))
        obtain ⟨hk, hx, dP, eF, dZ, eu⟩ := ag.kid ah.1 ah.2
        obtain ⟨gQ, rfl, eh⟩ := Zat dP
        have bK : KdS (Zh .u64) 1 ai gQ (gt V O) ad (.slice Y aa Z) 1 O.toNat 0 := ⟨eh.sq.up eF ag.lt, eu 0 _ rfl (by decide)⟩
        obtain ⟨cY, fI, c9, rfl⟩ := bK.sq.form
        refine m_' (.slice cY fI c9) (aL_ 48 (elp (.slice Y aa Z) 1 O.toNat 0) ai) (dZ _ _ _ _ (by kernel_rfl)) (es_ 1 ?_)
        obtain ⟨ax, gs⟩ := Zb gr
        refine bK.sq.mx_ 48 ax.1 ax.2 (me_ 35 0 (.int .u64 (gt (gt V O) ab)) bK.sq ax.1 ax.2 (es_ 2 (ag.mx_ 49 ah.1 ah.2 ?_)))
        obtain ⟨hl, hy, dQ, eG, d0, ev⟩ := ag.kid ah.1 ah.2
        obtain ⟨gR, rfl, ej⟩ := Zat dQ
        have bL : KdS (Zh .u64) 1 ai gR (gt V O) ad (.slice Y aa Z) 1 O.toNat 0 := ⟨ej.sq.up eG ag.lt, ev 0 _ rfl (by decide)⟩
        obtain ⟨cZ, fJ, c_, rfl⟩ := bL.sq.form
        refine m_' (.slice cZ fJ c_) (aL_ 48 (elp (.slice Y aa Z) 1 O.toNat 0) ai) (d0 _ _ _ _ (by kernel_rfl)) (es_ 1 ?_)
        obtain ⟨aL, gu⟩ := Zb gs
        refine bL.sq.mx_ 48 aL.1 aL.2 (me_ 35 0 (.int .u64 (gt (gt V O) X)) bL.sq aL.1 aL.2 (es_ 2 ?_))
        obtain ⟨b2, gv⟩ := Zb gu
        refine ag.mx_ 49 aL.1 b2 ?_
        obtain ⟨hm, hz, dR, eH, d1, ew⟩ := ag.kid aL.1 b2
        obtain ⟨gS, rfl, ek⟩ := Zat dR
        have bM : KdS (Zh .u64) 1 ai gS (gt V X) ad (.slice Y aa Z) 1 X.toNat 0 := ⟨ek.sq.up eH ag.lt, ew 0 _ rfl (by decide)⟩
        obtain ⟨c0, fK, da, rfl⟩ := bM.sq.form
        refine m_' (.slice c0 fK da) (aL_ 48 (elp (.slice Y aa Z) 1 X.toNat 0) ai) (d1 _ _ _ _ (by kernel_rfl)) (es_ 1 ?_)
        obtain ⟨b3, gw⟩ := Zb gv
        refine bM.sq.mx_ 48 ax.1 b3 (me_ 35 0 (.int .u64 (gt (gt V X) ab)) bM.sq ax.1 b3 ?_)
        obtain ⟨dx, gx⟩ := Zb gw
        refine d_w (((gt (gt V O) X) + (gt (gt V X) ab))) (k := .u64) (x := ((gt (gt V O) X) + (gt (gt V X) ab))) (by kernel_rfl) (Zag dx) ?_
        refine m_' (.int .u64 (min (gt (gt V O) ab) ((gt (gt V O) X) + (gt (gt V X) ab)))) (ZfR Tryz.prog [.int .u64 (gt (gt V O) ab), .int .u64 ((gt (gt V O) X) + (gt (gt V X) ab))]) (Zgu _ _) (bJ.sq.mx_ 48 ax.1 ax.2 ?_)
        obtain ⟨g5, fQ, dm, d5, hH⟩ := Nst.inner Zfe (P := Tryz.prog) (t := 35) (o2 := 0) a_.wf ag ah.1 ah.2 bJ rfl ax.1 ax.2 (.int .u64 (min (gt (gt V O) ab) ((gt (gt V O) X) + (gt (gt V X) ab)))) [.int .u64 (min (gt (gt V O) ab) ((gt (gt V O) X) + (gt (gt V X) ab)))] (by kernel_rfl) (by kernel_rfl) rfl (min (gt (gt V O) ab) ((gt (gt V O) X) + (gt (gt V X) ab))) (Nat.le_of_ble_eq_true rfl) (by kernel_rfl)
        have hD : O < ((V.set O.toNat ((gt V O).set ab.toNat (min (gt (gt V O) ab) ((gt (gt V O) X) + (gt (gt V X) ab))))).length : Int) := by rw [List.length_set]; exact ah.2
        have hq : ((gt V O).set ab.toNat (min (gt (gt V O) ab) ((gt (gt V O) X) + (gt (gt V X) ab)))) = (gt (V.set O.toNat ((gt V O).set ab.toNat (min (gt (gt V O) ab) ((gt (gt V O) X) + (gt (gt V X) ab))))) O) := (ZeQ ah.1 ah.2 _).symm
        refine fk_ fQ (ZP) ?_
        refine ZE ?_
        refine ct _ _ (g_' ?_)
        obtain ⟨dy, gy⟩ := Zb gx
        refine w_' ((ab + 1)) (Zn (by have := dy; omega)) (qs_ 1 (Za ?_))
        obtain rfl := oi_ gy
        exact cr cF _ _ lt_ ⟨(V.set O.toNat ((gt V O).set ab.toNat (min (gt (gt V O) ab) ((gt (gt V O) X) + (gt (gt V X) ab))))), (ab + 1), bD, ha_, (fs_ au.wf (fs_ au.wf (fr_ au.wf) a_ ir_) dm ir_), d5⟩
       have gz := ZL bA cK
       refine Zg (ct _ _ (g_' ?_))
       obtain ⟨dz, gA⟩ := Zb gz
       refine w_' ((ab + 1)) (Zn dz) (qs_ 1 (Za ?_))
       obtain rfl := oi_ gA
       exact cr cF _ _ lt_ ⟨V, (ab + 1), bD, ha_, (fs_ au.wf (fr_ au.wf) a_ ir_), ag⟩
      have gB := Zj bx a1
      refine ZA (Zm (Zm (ZK ?_)))
      obtain rfl := oi_ gB
      obtain rfl := Zw bD
      exact fe _ _ ⟨ha_, (fs_ au.wf (fr_ au.wf) a_ ir_), ag⟩
     obtain ⟨cf, dk, fx⟩ := hM
     obtain ⟨β, rfl⟩ := Zi cf
     clear cf
     refine fc _ _ (g_' ?_)
     obtain ⟨dA, gC⟩ := Zb gj
     refine w_' ((O + 1)) (Zn dA) (qs_ 1 (Za ?_))
     obtain rfl := oi_ gC
     exact fa fE _ _ lt_ ⟨bV, (O + 1), cm, ha_, (fs_ aA.wf (fs_ aA.wf (fr_ aA.wf) au ir_) dk ir_), fx⟩
    have gD := Zj bw a0
    refine ZA (Zm (Zm (ZK ?_)))
    obtain rfl := oi_ gD
    obtain rfl := Zw cm
    exact e_ _ _ ⟨ha_, (fs_ aA.wf (fr_ aA.wf) au ir_), bO⟩
   obtain ⟨cd, di, fw⟩ := hM
   obtain ⟨β, rfl⟩ := Zi cd
   clear cd
   refine e8 _ _ (g_' ?_)
   obtain ⟨dB, gE⟩ := Zb gg
   refine w_' ((X + 1)) (Zn dB) (qs_ 1 (Za ?_))
   obtain rfl := oi_ gE
   exact e5 fD _ _ lt_ ⟨bU, (X + 1), cl, ha_, (fs_ aC.wf (fs_ aC.wf (fr_ aC.wf) aA ir_) di ir_), fw⟩
  have gF := Zj bv aZ
  refine ZA (Zm (Zm (ZK ?_)))
  obtain rfl := oi_ gF
  obtain rfl := Zw cl
  exact e4 _ _ ⟨ha_, (fs_ aC.wf (fr_ aC.wf) aA ir_), bN⟩
 obtain ⟨cb, dh, fv⟩ := hM
 obtain ⟨β, rfl⟩ := Zi cb
 clear cb
 refine e1 _ _ (sn_ ?_)
 refine Zp ?_
 refine br_ [.slice Y aa Z] ?_
 have bQ := (t_ aw.n al.n)
 obtain rfl := oi_ gd
 exact ⟨(.slice Y aa Z), ad, rfl, (fs_ a5 (fs_ a5 (fs_ a5 (((f0_ a5).extR aw).extR al) av (aE.fresh aw.n)) aC (Inn.trans (aE.fresh aw.n) bQ bh)) dh (Inn.trans (aE.fresh aw.n) bQ bh)), fv, (Inn.trans (aE.fresh aw.n) bQ bh)⟩
theorem Zfs {H : AH} {ag : Value} {bQ : Fp} {Y : Value} {bR : Fp} {aA : Int} {O : List (Int × Int × Int)} {l : List (Int)} {s : Int} {t : Int} {r : Int × Bool}
    (ac : WF H) (a6 : Sq ZO 3 H ag O bQ) (aL : Sq (Zh .i64) 1 H Y l bR) (be : ZbC aA O l s t = some r) :
    ACalls Tryz.prog 18 #[.agg #[i_ aA, ag], Y, i_ s, i_ t] H fun v H' => v = .tuple #[.int .u64 r.1, .bool r.2] /\ FrS [] H H' := by
 refine ab_ Tryz.func18 ?_
 unfold ZbC at be
 refine sq_ fun cg => g_' ?_
 refine Z3 ac [i_ aA, ag] (Zd (rfl) (Zd (a6.one1) (ZN))) (by kernel_rfl) fun ae az X dv dd => ?_
 refine qs_ 2 (Za (cg _ _ (sq_ fun cy => sq_ fun cA => ?_)))
 obtain ⟨bu, bi, bz⟩ := bs_ be
 refine Zv (fun α aS => Has α [(1, Y), (4, pt_ ae 0), (37, .bool bu)] /\ az = aS) (fun _ aP => ?_) (fun α aS hM => ?_)
 ·refine g_' (qs_ 1 ?_)
  have ah := (aL.ext X)
  refine ah.ln_ 38 ?_
  refine sb_ ((l.length : Int) = 0) (fun aF => ?_) fun aF => ?_
  ·have cV := Zf aF bi
   refine qs_ 17 (Za ?_)
   obtain rfl := oi_ cV
   exact aP _ _ ⟨ha_, rfl⟩
  have c1 := Zj aF bi
  refine qs_ 2 ?_
  obtain ⟨a4, bE⟩ := Zb c1
  refine ah.ix_ 38 (by decide) a4 (le_ 3 0 (i_ (gt l 0)) ah (by decide) a4 (qs_ 1 ?_))
  refine Zgt ((gt l 0) = s) (by kernel_rfl) (fun aJ => ?_) (fun aJ => ?_)
  ·have c8 := Zf aJ bE
   refine qs_ 4 (ah.ln_ 38 ?_)
   obtain ⟨b0, c9⟩ := Zb c8
   refine w_' (((l.length : Int) - 1)) (Zn b0) ?_
   obtain ⟨av, c_⟩ := Zb c9
   refine ah.ix_ 38 av.1 av.2 (le_ 3 0 (i_ (gt l ((l.length : Int) - 1))) ah av.1 av.2 (qs_ 3 (Za ?_)))
   obtain rfl := oi_ c_
   exact aP _ _ ⟨ha_, rfl⟩
  have da := Zj aJ bE
  refine qs_ 11 (Za ?_)
  obtain rfl := oi_ da
  exact aP _ _ ⟨ha_, rfl⟩
 obtain ⟨a9, rfl⟩ := hM
 obtain ⟨β, rfl⟩ := Zi a9
 clear a9
 refine cA _ _ ?_
 refine wb_ (bu) (fun aK => ?_) fun aK => ?_
 ·have db := Zf aK bz
  refine sn_ ?_
  refine Zp (Zk ?_)
  refine br_ [.int .u64 0, .bool false] ?_
  obtain rfl := oi_ db
  exact ⟨rfl, ((f0_ ac).extR X)⟩
 have dc := ZL aK bz
 refine Zg (cy _ _ (sn_ (sq_ fun cq => sq_ fun cr => g_' (qs_ 1 ?_))))
 have bJ := (aL.ext X)
 refine bJ.ln_ 38 (qs_ 1 (Za (cr _ _ ?_)))
 obtain ⟨bK, cb, aR⟩ := bs_ dc
 refine Zv (fun α aW => ∃ ax, bK = Sum.inr ax /\ Has α [(10, .int .u64 ax)] /\ FrS [] az aW) (fun _ ct => ?_) (fun α aW hM => ?_)
 ·refine Zl ?_
  obtain ⟨bq, b5⟩ := Zr.1 cb
  refine Zy (fun n α af => ∃ (ad : Int), ∃ (z : Int), ZD (fun zz_ => Za7 O l zz_.1 zz_.2) n (ad, z) = some bK /\ Has α [(1, Y), (4, pt_ ae 0), (10, .int .u64 ad), (38, Y), (39, i_ (l.length : Int)), (40, i_ z)] /\ FrS [] az af) bq ⟨0, 0, b5, ha_, (fr_ X.wf)⟩ ?_
  rintro bq α af ⟨ad, z, b2, bb, V⟩ dt bm
  obtain ⟨br, dm, rfl, an, al⟩ := Zt b2
  obtain ⟨β, rfl⟩ := Zi bb
  clear bb
  replace an : Za7 O l ad z = some dm := an
  unfold Za7 at an
  refine sn_ (sq_ fun cu => ?_)
  refine wc_ (z < (l.length : Int)) (fun aj => ?_) fun aj => ?_
  ·have de := Zf aj an
   refine Zg (cu _ _ (sq_ fun bn => Zl (sq_ fun cv => g_' (qs_ 1 ?_))))
   obtain ⟨a5, df⟩ := Zb de
   have ay := (bJ.fr V dn_)
   refine ay.ix_ 38 a5 aj (le_ 3 0 (i_ (gt l z)) ay a5 aj (qs_ 2 (Za (cv _ _ (sq_ fun cw => sq_ fun cx => g_' (qs_ 2 ?_))))))
   obtain ⟨aC, dg⟩ := Zb df
   obtain ⟨dw, cG, aw⟩ := Sq.cut (P := Tryz.prog) ay (t := 38) (by kernel_rfl) (lo := none) (hi := (some (i_ z))) (l := 0) (r := z.toNat) (rfl) (ZQ _ (by have := aC; omega)) (by have := aC; omega) (by have := aC; omega)
   obtain ⟨aZ, bs, a0, rfl⟩ := aw.form
   refine Zc5 (.slice aZ bs a0) (by kernel_rfl) cG ?_
   refine aw.ln_ 38 (qs_ 1 (Za (cx _ _ ?_)))
   obtain ⟨bL, cc, bF⟩ := bs_ dg
   refine Zv (fun α aX => ∃ bw, bL = Sum.inr bw /\ Has α [(1, Y), (4, pt_ ae 0), (10, .int .u64 ad), (11, i_ z), (12, i_ (gt l z)), (38, Y), (39, i_ (l.length : Int)), (40, i_ z)] /\ af = aX) (fun _ cz => ?_) (fun α aX hM => ?_)
   ·refine Zl ?_
    obtain ⟨bt, b6⟩ := Zr.1 cc
    refine Zy (fun n α aY => ∃ (aa : Int), ZD (fun zz_ => Za3 l z zz_) n aa = some bL /\ Has α [(1, Y), (4, pt_ ae 0), (10, .int .u64 ad), (11, i_ z), (12, i_ (gt l z)), (38, Y), (39, i_ (l.length : Int)), (40, i_ z), (47, .slice aZ bs a0), (48, i_ (((l.take z.toNat).drop 0).length : Int)), (49, i_ aa)] /\ af = aY) bt ⟨0, b6, ha_, rfl⟩ ?_
    rintro bt α aY ⟨aa, b3, bd, rfl⟩ du cB
    obtain ⟨cE, dp, rfl, ao, aO⟩ := Zt b3
    obtain ⟨β, rfl⟩ := Zi bd
    clear bd
    replace ao : Za3 l z aa = some dp := ao
    unfold Za3 at ao
    refine sn_ (sq_ fun cC => ?_)
    refine wc_ (aa < (((l.take z.toNat).drop 0).length : Int)) (fun ak => ?_) fun ak => ?_
    ·have dh := Zf ak ao
     refine Zg (cC _ _ (sq_ fun ch => Zl (sq_ fun ci => g_' ?_)))
     obtain ⟨a2, bx⟩ := Zb dh
     refine aw.ix_ 38 a2 ak (le_ 3 0 (i_ (gt ((l.take z.toNat).drop 0) aa)) aw a2 ak (qs_ 1 (Za (ci _ _ (sn_ ?_)))))
     refine wc_ ((gt ((l.take z.toNat).drop 0) aa) = (gt l z)) (fun aD => ?_) fun aD => ?_
     ·have cH := Zf aD bx
      refine sn_ ?_
      refine Zp (ZI (Zk (Zk (ZI (Zk (Zk (ZI (Zk (Zk (ZI (Zk (Zk ?_))))))))))))
      obtain ⟨dx, bf, cd⟩ := map_some cH
      subst cd
      obtain rfl := Zw aO
      have b7 := elim_inl bF
      rw [b7] at bf
      obtain ⟨dy, bg, ce⟩ := map_some bf
      subst ce
      obtain rfl := Zw al
      have b8 := elim_inl aR
      rw [b8] at bg
      refine br_ [.int .u64 0, .bool false] ?_
      obtain rfl := oi_ bg
      exact ⟨rfl, (fs_ ac ((f0_ ac).extR X) V in_)⟩
     have cI := Zj aD bx
     refine Zg (ch _ _ (g_' ?_))
     obtain ⟨bS, cJ⟩ := Zb cI
     refine w_' ((aa + 1)) (Zn (by have := bS; omega)) (qs_ 1 (Za ?_))
     obtain rfl := oi_ cJ
     exact cB cE _ _ lt_ ⟨(aa + 1), aO, ha_, rfl⟩
    have cK := Zj ak ao
    refine ZA (Zm (Zm (ZK ?_)))
    obtain rfl := oi_ cK
    obtain rfl := Zw aO
    exact cz _ _ ⟨_, rfl, ha_, rfl⟩
   obtain ⟨bw, rfl, bc, rfl⟩ := hM
   have bA := elim_inr bF
   obtain ⟨β, rfl⟩ := Zi bc
   clear bc
   refine cw _ _ (sq_ fun cj => sn_ ?_)
   refine wc_ (z = 0) (fun aE => ?_) fun aE => ?_
   ·have cL := Zf aE bA
    refine ZA (Zm (ZK ?_))
    refine bn _ _ (g_' ?_)
    obtain ⟨bT, cM⟩ := Zb cL
    refine w_' ((z + 1)) (Zn (by have := bT; omega)) (qs_ 1 (Za ?_))
    obtain rfl := oi_ cM
    exact bm br _ _ lt_ ⟨ad, (z + 1), al, ha_, (fs_ X.wf (fr_ X.wf) V in_)⟩
   have cN := Zj aE bA
   refine Zg (cj _ _ (sn_ (sq_ fun ck => sq_ fun cl => g_' (qs_ 1 ?_))))
   have di := (dd.frS V dn_)
   refine lr_ 44 1 (ag) di ?_
   have bG := ((a6.ext X).fr V dn_)
   refine bG.ln_ 44 (qs_ 1 (Za (cl _ _ ?_)))
   obtain ⟨ap, b_, bB⟩ := bs_ cN
   refine Zv (fun α aT => Has α [(1, Y), (4, pt_ ae 0), (10, .int .u64 ap.1), (15, .bool ap.2), (38, Y), (39, i_ (l.length : Int)), (40, i_ z)] /\ FrS [] af aT) (fun _ cm => ?_) (fun α aT hM => ?_)
   ·refine Zl ?_
    obtain ⟨bo, b4⟩ := Zr.1 b_
    refine Zy (fun n α aU => ∃ (ab : Int), ∃ (found3 : Bool), ∃ (J : Int), ZD (fun zz_ => Za8 O l z zz_.1 zz_.2.1 zz_.2.2) n (ab, found3, J) = some ap /\ Has α [(1, Y), (4, pt_ ae 0), (10, .int .u64 ab), (11, i_ z), (12, i_ (gt l z)), (15, .bool found3), (38, Y), (39, i_ (l.length : Int)), (40, i_ z), (60, ag), (61, i_ (O.length : Int)), (62, i_ J)] /\ FrS [] af aU) bo ⟨ad, false, 0, b4, ha_, (fr_ V.wf)⟩ ?_
    rintro bo α aU ⟨ab, found3, J, b1, a8, Z⟩ dr bj
    obtain ⟨bp, dk, rfl, am, aN⟩ := Zt b1
    obtain ⟨β, rfl⟩ := Zi a8
    clear a8
    replace am : Za8 O l z ab found3 J = some dk := am
    unfold Za8 at am
    refine sn_ (sq_ fun cn => ?_)
    refine wc_ (J < (O.length : Int)) (fun ai => ?_) fun ai => ?_
    ·have cO := Zf ai am
     refine Zg (cn _ _ (sq_ fun bk => Zl (sq_ fun co => g_' ?_)))
     obtain ⟨a3, cP⟩ := Zb cO
     have bH := (bG.fr Z dn_)
     refine bH.ix_ 44 a3 ai (le_ 59 0 (.agg #[i_ ((gt O J).1), i_ ((gt O J).2.1), i_ ((gt O J).2.2)]) bH a3 ai ?_)
     refine rk_ Z.wf [i_ 0, i_ 0, i_ 0] fun bN dq aq aM cQ => ?_
     obtain ⟨bM, cF, aB, aQ⟩ := ra_ 59 0 aq.wf cQ [i_ ((gt O J).1), i_ ((gt O J).2.1), i_ ((gt O J).2.2)] [i_ ((gt O J).1), i_ ((gt O J).2.1), i_ ((gt O J).2.2)]
     refine ek_ cF (Za (co _ _ (sq_ fun cp => ?_)))
     obtain ⟨bv, ca, bC⟩ := bs_ cP
     refine Zv (fun α aV => Has α [(1, Y), (4, pt_ ae 0), (10, .int .u64 ab), (11, i_ z), (12, i_ (gt l z)), (15, .bool found3), (17, pt_ bN 0), (38, Y), (39, i_ (l.length : Int)), (40, i_ z), (60, ag), (61, i_ (O.length : Int)), (62, i_ J), (79, .bool bv)] /\ bM = aV) (fun _ bl => ?_) (fun α aV hM => ?_)
     ·refine ZJ [0, 1, 2, 3, 4, 5, 6, 7, 8, 9, 10, 11, 12, 13] (by kernel_rfl) ?_
      refine es_ 1 (mr_ 3 0 (i_ ((gt O J).1)) aQ (es_ 2 ?_))
      obtain ⟨bU, cR⟩ := Zb ca
      refine d_w ((z - 1)) (k := .i64) (x := (z - 1)) (by kernel_rfl) (Zn bU) ?_
      obtain ⟨au, bD⟩ := Zb cR
      have cD := (t_ (t_ X.n V.n) Z.n)
      have bO := (aM.djn (aL.lt.le cD))
      have bI := (((ay.fr Z dn_).ext aq).fr aB bO)
      refine bI.mx_ 38 au.1 au.2 (me_ 3 0 (i_ (gt l (z - 1))) bI au.1 au.2 ?_)
      refine db_ (((gt O J).1) = (gt l (z - 1))) (fun aG => ?_) fun aG => ?_
      ·have cS := Zf aG bD
       refine es_ 2 (mr_ 3 1 (i_ ((gt O J).2.1)) aQ (es_ 3 ?_))
       refine ZE ?_
       obtain rfl := oi_ cS
       exact bl _ _ ⟨ha_, rfl⟩
      have cT := Zj aG bD
      refine es_ 6 ?_
      refine ZE ?_
      obtain rfl := oi_ cT
      exact bl _ _ ⟨ha_, rfl⟩
     obtain ⟨a_, rfl⟩ := hM
     obtain ⟨β, rfl⟩ := Zi a_
     clear a_
     refine cp _ _ ?_
     refine wb_ (bv) (fun aH => ?_) fun aH => ?_
     ·have cU := Zf aH bC
      refine sn_ (g_' (qs_ 2 (lr_ 3 2 (i_ ((gt O J).2.2)) aQ ?_)))
      obtain ⟨bV, cW⟩ := Zb cU
      refine s_w ((gt O J).2.2) (k := .u64) (x := (gt O J).2.2) (by kernel_rfl) (Zag bV) ?_
      obtain ⟨bW, cX⟩ := Zb cW
      refine s_w ((ab + ((gt O J).2.2))) (k := .u64) (x := (ab + ((gt O J).2.2))) (by kernel_rfl) (Zag bW) ?_
      refine qs_ 1 (Za (bk _ _ (g_' ?_)))
      obtain ⟨bX, cY⟩ := Zb cX
      refine w_' ((J + 1)) (Zn (by have := bX; omega)) (qs_ 1 (Za ?_))
      obtain rfl := oi_ cY
      exact bj bp _ _ lt_ ⟨(ab + ((gt O J).2.2)), true, (J + 1), aN, ha_, (fs_ V.wf ((fs_ V.wf (fr_ V.wf) Z in_).extR aq) aB (aM.fresh Z.n))⟩
     have cZ := ZL aH bC
     refine Zg (bk _ _ (g_' ?_))
     obtain ⟨bY, c0⟩ := Zb cZ
     refine w_' ((J + 1)) (Zn (by have := bY; omega)) (qs_ 1 (Za ?_))
     obtain rfl := oi_ c0
     exact bj bp _ _ lt_ ⟨ab, found3, (J + 1), aN, ha_, (fs_ V.wf ((fs_ V.wf (fr_ V.wf) Z in_).extR aq) aB (aM.fresh Z.n))⟩
    have c2 := Zj ai am
    refine ZA (Zm (Zm (ZK ?_)))
    obtain rfl := oi_ c2
    obtain rfl := Zw aN
    exact cm _ _ ⟨ha_, (fs_ V.wf (fr_ V.wf) Z in_)⟩
   obtain ⟨a7, a1⟩ := hM
   obtain ⟨β, rfl⟩ := Zi a7
   clear a7
   refine ck _ _ (sn_ ?_)
   refine wb_ ((!ap.2)) (fun aI => ?_) fun aI => ?_
   ·have c3 := Zf aI bB
    refine sn_ ?_
    refine Zp (ZI (Zk (Zk (ZI (Zk (Zk ?_))))))
    obtain ⟨dz, bh, cf⟩ := map_some c3
    subst cf
    obtain rfl := Zw al
    have b9 := elim_inl aR
    rw [b9] at bh
    refine br_ [.int .u64 0, .bool false] ?_
    obtain rfl := oi_ bh
    exact ⟨rfl, (fs_ ac (fs_ ac ((f0_ ac).extR X) V in_) a1 in_)⟩
   have c4 := ZL aI bB
   refine Zg (bn _ _ (g_' ?_))
   obtain ⟨bZ, c5⟩ := Zb c4
   refine w_' ((z + 1)) (Zn (by have := bZ; omega)) (qs_ 1 (Za ?_))
   obtain rfl := oi_ c5
   exact bm br _ _ lt_ ⟨ap.1, (z + 1), al, ha_, (fs_ X.wf (fs_ X.wf (fr_ X.wf) V in_) a1 in_)⟩
  have c6 := Zj aj an
  refine ZA (Zm (Zm (ZK ?_)))
  obtain rfl := oi_ c6
  obtain rfl := Zw al
  exact ct _ _ ⟨_, rfl, ha_, (fs_ X.wf (fr_ X.wf) V in_)⟩
 obtain ⟨ax, rfl, ba, bP⟩ := hM
 have c7 := elim_inr aR
 obtain ⟨β, rfl⟩ := Zi ba
 clear ba
 refine cq _ _ (sn_ ?_)
 refine Zp ?_
 refine br_ [.int .u64 ax, .bool true] ?_
 obtain rfl := oi_ c7
 exact ⟨rfl, (fs_ ac ((f0_ ac).extR X) bP in_)⟩
end Go.Vd

/-! (KWt13) -/

set_option maxRecDepth 100000
set_option maxHeartbeats 4000000
set_option linter.unusedVariables false
namespace Go.Vd
open Go.Proofs
attribute [local irreducible] Zs Zu aWp
theorem Zen {H : AH} {an : Value} {dd : Fp} {au : Value} {df : Fp} {aq : Value} {de : Fp} {ap : Value} {dc : Fp} {ao : Value} {db : Fp} {aS : List (Int)} {bB : List (Int)} {bA : List (Int × Int × Int × Int)} {bs : List (Int)} {br : List (Int × Int × Int × Int)} {s : Int} {t : Int} {r : Bool}
    (z : WF H) (aK : Sq (Zh .u32) 1 H an aS dd) (aM : Sq (Zh .u32) 1 H au bB df) (aL : Sq Ze 4 H aq bA de) (aJ : Sq (Zh .u32) 1 H ap bs dc) (aI : Sq Ze 4 H ao br db) (bI : Zaz aS bB bA bs br s t = some r) :
    ACalls Tryz.prog 3 #[.agg #[an, au, aq, ap, ao], i_ s, i_ t] H fun v H' => v = .bool r /\ FrS [] H H' := by
 refine ab_ Tryz.func3 ?_
 unfold Zaz at bI
 refine sq_ fun dC => g_' ?_
 refine Z3 z [an, au, aq, ap, ao] (Zd (aK.one1) (Zd (aM.one1) (Zd (aL.one1) (Zd (aJ.one1) (Zd (aI.one1) (ZN)))))) (by kernel_rfl) fun aU f5 Z gr bo => ?_
 refine qs_ 1 (Za (dC _ _ (sq_ fun dU => sq_ fun dV => g_' ?_)))
 obtain ⟨fX, dq, bW⟩ := bs_ bI
 refine ck_ (Zgh Z.wf dq) ?_
 rintro _ cR ⟨rfl, V⟩
 refine qs_ 1 (Za (dV _ _ ?_))
 refine wb_ ((!fX)) (fun aW => ?_) fun aW => ?_
 ·have ee := Zf aW bW
  refine sn_ ?_
  refine Zp (Zk ?_)
  refine br_ [.bool false] ?_
  obtain rfl := oi_ ee
  exact ⟨rfl, (fs_ z ((f0_ z).extR Z) V in_)⟩
 have eg := ZL aW bW
 refine Zg (dU _ _ (sq_ fun dI => sq_ fun dK => ?_))
 obtain ⟨bT, bK, b2⟩ := bs_ eg
 refine Zv (fun α bv => Has α [(1, i_ s), (2, i_ t), (3, pt_ aU 0), (30, .bool bT)] /\ FrS [] cR bv) (fun _ bO => ?_) (fun α bv hM => ?_)
 ·refine g_' (qs_ 1 ?_)
  have cD := (bo.frS V dn_)
  refine lr_ 22 0 (an) cD ?_
  have cE := ((aK.ext Z).fr V dn_)
  refine cE.ln_ 22 ?_
  refine sb_ ((aS.length : Int) > 12) (fun a8 => ?_) fun a8 => ?_
  ·have eE := Zf a8 bK
   refine qs_ 5 (Za ?_)
   obtain rfl := oi_ eE
   exact bO _ _ ⟨ha_, (fr_ V.wf)⟩
  have eG := Zj a8 bK
  refine qs_ 1 (lr_ 25 0 (.agg #[an, au, aq, ap, ao]) cD ?_)
  have fz := ((aM.ext Z).fr V dn_)
  have fA := ((aL.ext Z).fr V dn_)
  have fE := ((aJ.ext Z).fr V dn_)
  have fG := ((aI.ext Z).fr V dn_)
  obtain ⟨gP, dz, eR⟩ := bs_ eG
  refine ck_ (Zfh V.wf cE fz fA fE fG dz) ?_
  rintro _ f7 ⟨rfl, c_⟩
  refine qs_ 2 (Za ?_)
  obtain rfl := oi_ eR
  exact bO _ _ ⟨ha_, (fs_ V.wf (fr_ V.wf) c_ in_)⟩
 obtain ⟨bF, ab⟩ := hM
 obtain ⟨β, rfl⟩ := Zi bF
 clear bF
 refine dK _ _ ?_
 refine wb_ (bT) (fun bg => ?_) fun bg => ?_
 ·have eV := Zf bg b2
  refine sn_ ?_
  refine Zp (Zk ?_)
  refine br_ [.bool true] ?_
  obtain rfl := oi_ eV
  exact ⟨rfl, (fs_ z (fs_ z ((f0_ z).extR Z) V in_) ab in_)⟩
 have eW := ZL bg b2
 refine Zg (dI _ _ (sq_ fun dS => g_' ?_))
 have cG := ((bo.frS V dn_).frS ab dn_)
 refine lr_ 25 0 (.agg #[an, au, aq, ap, ao]) cG ?_
 have cH := (((aK.ext Z).fr V dn_).fr ab dn_)
 have cI := (((aM.ext Z).fr V dn_).fr ab dn_)
 have cJ := (((aL.ext Z).fr V dn_).fr ab dn_)
 have cK := (((aJ.ext Z).fr V dn_).fr ab dn_)
 have cL := (((aI.ext Z).fr V dn_).fr ab dn_)
 obtain ⟨bq, dA, eX⟩ := bs_ eW
 refine ck_ (ZeB ab.wf cH cI cJ cK cL dA) ?_
 rintro _ f8 ⟨gI, gp, rfl, ac, bl, gC⟩
 obtain ⟨aT, bn, aV, rfl⟩ := bl.form
 refine rk_ ac.wf [i_ 0, .slice none 0 0] fun gb f9 ae ah eY => ?_
 have fK := (bl.ext ae)
 obtain ⟨cT, ea, af, eZ⟩ := ra_ 30 0 ae.wf eY [i_ bq.1, .slice aT bn aV] [i_ bq.1, .slice aT bn aV]
 refine ek_ ea (Za (dS _ _ (sq_ fun dT => ?_)))
 refine ZJ [0, 2, 1, 3, 4, 5] (by kernel_rfl) ?_
 have d9 := (t_ (t_ V.n ab.n) ac.n)
 have c4 := (ah.djn (bo.ltF.le d9))
 have bp := (((cG.frS ac dn_).ext ae).frS af c4)
 refine mr_ 25 0 (.agg #[an, au, aq, ap, ao]) bp ?_
 refine ZcR (.agg #[an, au, aq, ap, ao]) (x := aL_ 25 (pt_ aU 0) cT) (by kernel_rfl) (bp.l_) ?_
 have ai := (t_ (t_ (t_ Z.n V.n) ab.n) ac.n)
 have c5 := (ah.djn (aK.lt.le ai))
 have cM := (((cH.fr ac dn_).ext ae).fr af c5)
 have c6 := (ah.djn (aM.lt.le ai))
 have cN := (((cI.fr ac dn_).ext ae).fr af c6)
 have c7 := (ah.djn (aL.lt.le ai))
 have cO := (((cJ.fr ac dn_).ext ae).fr af c7)
 have c8 := (ah.djn (aJ.lt.le ai))
 have cP := (((cK.fr ac dn_).ext ae).fr af c8)
 have c9 := (ah.djn (aI.lt.le ai))
 have cQ := (((cL.fr ac dn_).ext ae).fr af c9)
 obtain ⟨gQ, dB, e0⟩ := bs_ eX
 refine dk_ (Zdn af.wf cM cN cO cP cQ dB) ?_
 rintro gL cU ⟨_, gq, rfl, ad, bm, gs⟩
 have ce := (bp.frS ad dn_)
 refine ⟨Zbb (y := aL_ 25 (pt_ aU 0) cU) (by kernel_rfl) (ce.l_) (ZP), ?_⟩
 have cf := (cM.fr ad dn_)
 have cg := (cN.fr ad dn_)
 have ch := (cO.fr ad dn_)
 have ci := (cP.fr ad dn_)
 have cj := (cQ.fr ad dn_)
 obtain ⟨gM, dp, eb⟩ := bs_ e0
 refine dk_ (ZhG ad.wf cf cg ch ci cj dp) ?_
 rintro fL fZ ⟨_, gh, rfl, aa, bj, gu⟩
 refine ⟨Z0 (by kernel_rfl) (ZP), ?_⟩
 refine es_ 2 ?_
 refine ZE ?_
 refine dT _ _ (sq_ fun dD => g_' ?_)
 have ck := (ce.frS aa dn_)
 refine lr_ 25 0 (.agg #[an, au, aq, ap, ao]) ck (qs_ 2 ?_)
 have cl := (cf.fr aa dn_)
 have cm := (cg.fr aa dn_)
 have cn := (ch.fr aa dn_)
 have co := (ci.fr aa dn_)
 have cp := (cj.fr aa dn_)
 obtain ⟨aC, dr, ec⟩ := bs_ eb
 refine ck_ (Zew aa.wf cl cm cn co cp dr) ?_
 rintro _ f0 ⟨gJ, gi, rfl, Y, bP, gv⟩
 refine qs_ 5 (Za (dD _ _ (sq_ fun dE => g_' ?_)))
 have cq := (ck.frS Y dn_)
 refine lr_ 25 0 (.agg #[an, au, aq, ap, ao]) cq (qs_ 2 ?_)
 have cr := (cl.fr Y dn_)
 have ct := (cm.fr Y dn_)
 have cu := (cn.fr Y dn_)
 have cv := (co.fr Y dn_)
 have cw := (cp.fr Y dn_)
 obtain ⟨gN, dt, ed⟩ := bs_ ec
 refine ck_ (ZhI Y.wf cr ct cu cv cw dt) ?_
 rintro _ f1 ⟨gE, gj, fM, gk, rfl, X, aB, aN, gw, gx, gf⟩
 obtain ⟨cV, dY, cY, rfl⟩ := aB.form
 refine qs_ 5 (Za (dE _ _ (sq_ fun dF => g_' ?_)))
 have cx := (cq.frS X dn_)
 refine lr_ 25 0 (.agg #[an, au, aq, ap, ao]) cx ?_
 have cy := (cr.fr X dn_)
 have cz := (ct.fr X dn_)
 have cA := (cu.fr X dn_)
 have cB := (cv.fr X dn_)
 have cC := (cw.fr X dn_)
 obtain ⟨gO, du, ef⟩ := bs_ ed
 refine ck_ (Zfc X.wf cy cz cA cB cC du) ?_
 rintro _ f2 ⟨gF, gl, gK, gm, rfl, J, dW, dX, gy, gz, gg⟩
 obtain ⟨f_, gD, gc, rfl⟩ := dW.form
 refine qs_ 5 (Za (dF _ _ (sq_ fun dG => sq_ fun dH => g_' ?_)))
 have fc := (((((eZ.frS ad dn_).frS aa dn_).frS Y dn_).frS X dn_).frS J dn_)
 refine lr_ 30 0 (.agg #[i_ bq.1, .slice aT bn aV]) fc ?_
 have fd := ((((((fK.fr af (ah.djn bl.lt)).fr ad dn_).fr aa dn_).fr Y dn_).fr X dn_).fr J dn_)
 obtain ⟨fY, dv, bX⟩ := bs_ ef
 refine ck_ (Za4 J.wf fd dv) ?_
 rintro _ bt ⟨rfl, O⟩
 refine Za (dH _ _ ?_)
 refine wb_ (fY) (fun aX => ?_) fun aX => ?_
 ·have eh := Zf aX bX
  refine sq_ fun dJ => ?_
  obtain ⟨bS, bJ, ej⟩ := bs_ eh
  refine Zv (fun α bu => Has α [(6, .bool bS)] /\ bt = bu) (fun _ aw => ?_) (fun α bu hM => ?_)
  ·refine g_' (qs_ 1 ?_)
   have fe := (((((bm.fr aa dn_).fr Y dn_).fr X dn_).fr J dn_).fr O dn_)
   rcases (fe).cases with ⟨aY, rfl⟩ | ⟨aY, e2, fN, rfl⟩
   ·have ek := Zf aY bJ
    refine qs_ 27 (Za ?_)
    obtain rfl := oi_ ek
    exact aw _ _ ⟨ha_, rfl⟩
   have bY := Zj aY bJ
   refine l_' (.bool true) (Zaw Tryz.prog .neq 33 (.tmp 58) (.const .nilIface) (.iface e2 fN) .nilIface) (ZU (by kernel_rfl)) (qs_ 2 ?_)
   have ff := ((((bj.fr Y dn_).fr X dn_).fr J dn_).fr O dn_)
   rcases (ff).cases with ⟨aZ, rfl⟩ | ⟨aZ, e3, fO, rfl⟩
   ·have el := Zf aZ bY
    refine qs_ 24 (Za ?_)
    obtain rfl := oi_ el
    exact aw _ _ ⟨ha_, rfl⟩
   have bZ := Zj aZ bY
   refine l_' (.bool true) (Zaw Tryz.prog .neq 33 (.tmp 61) (.const .nilIface) (.iface e3 fO) .nilIface) (ZU (by kernel_rfl)) (qs_ 3 ?_)
   have fg := (((bP.fr X dn_).fr J dn_).fr O dn_)
   rcases (fg).cases with ⟨a0, rfl⟩ | ⟨a0, e4, fP, rfl⟩
   ·have em := Zf a0 bZ
    refine qs_ 20 (Za ?_)
    obtain rfl := oi_ em
    exact aw _ _ ⟨ha_, rfl⟩
   have b0 := Zj a0 bZ
   refine l_' (.bool true) (Zaw Tryz.prog .neq 33 (.tmp 65) (.const .nilIface) (.iface e4 fP) .nilIface) (ZU (by kernel_rfl)) (qs_ 3 ?_)
   have fh := ((aN.fr J dn_).fr O dn_)
   rcases (fh).cases with ⟨a1, rfl⟩ | ⟨a1, e5, fQ, rfl⟩
   ·have eo := Zf a1 b0
    refine qs_ 16 (Za ?_)
    obtain rfl := oi_ eo
    exact aw _ _ ⟨ha_, rfl⟩
   have b1 := Zj a1 b0
   refine l_' (.bool true) (Zaw Tryz.prog .neq 33 (.tmp 69) (.const .nilIface) (.iface e5 fQ) .nilIface) (ZU (by kernel_rfl)) (qs_ 3 ?_)
   have fj := (dX.fr O dn_)
   rcases (fj).cases with ⟨a2, rfl⟩ | ⟨a2, e6, fR, rfl⟩
   ·have ep := Zf a2 b1
    refine qs_ 12 (Za ?_)
    obtain rfl := oi_ ep
    exact aw _ _ ⟨ha_, rfl⟩
   have b3 := Zj a2 b1
   refine l_' (.bool true) (Zaw Tryz.prog .neq 33 (.tmp 73) (.const .nilIface) (.iface e6 fR) .nilIface) (ZU (by kernel_rfl)) (qs_ 3 ?_)
   refine sb_ (aC.1 = 0) (fun a3 => ?_) fun a3 => ?_
   ·have eq := Zf a3 b3
    refine qs_ 3 ?_
    have fk := ((aB.fr J dn_).fr O dn_)
    refine fk.sq.ln_ 38 (qs_ 3 (Za ?_))
    obtain rfl := oi_ eq
    exact aw _ _ ⟨ha_, rfl⟩
   have es := Zj a3 b3
   refine qs_ 7 (Za ?_)
   obtain rfl := oi_ es
   exact aw _ _ ⟨ha_, rfl⟩
  obtain ⟨bE, rfl⟩ := hM
  obtain ⟨β, rfl⟩ := Zi bE
  clear bE
  refine dJ _ _ ?_
  refine Zp (Zk ?_)
  refine br_ [.bool bS] ?_
  obtain rfl := oi_ ej
  exact ⟨rfl, (fs_ z (fs_ z (fs_ z (fs_ z (fs_ z (fs_ z (fs_ z ((fs_ z (fs_ z (fs_ z ((f0_ z).extR Z) V in_) ab in_) ac in_).extR ae) af (ah.fresh ai)) ad in_) aa in_) Y in_) X in_) J in_) O in_)⟩
 have b4 := ZL aX bX
 refine Zg (dG _ _ (sq_ fun dL => sq_ fun bN => g_' (qs_ 1 ?_)))
 have fm := (((bP.fr X dn_).fr J dn_).fr O dn_)
 rcases (fm).cases with ⟨a4, rfl⟩ | ⟨a4, e8, fS, rfl⟩
 ·have et := Zf a4 b4
  refine qs_ 1 (Za (bN _ _ ?_))
  refine wb_ false (fun h => by cases h) fun _ => ?_
  refine Zg (dL _ _ (sq_ fun dM => g_' ?_))
  have fo := ((cx.frS J dn_).frS O dn_)
  refine lr_ 25 0 (.agg #[an, au, aq, ap, ao]) fo ?_
  have fs := ((cy.fr J dn_).fr O dn_)
  have ft := ((cz.fr J dn_).fr O dn_)
  have fu := ((cA.fr J dn_).fr O dn_)
  have fv := ((cB.fr J dn_).fr O dn_)
  have fw := ((cC.fr J dn_).fr O dn_)
  obtain ⟨ax, dw, eu⟩ := bs_ et
  refine ck_ (Ze9 O.wf fs ft fu fv fw dw) ?_
  rintro _ f3 ⟨gG, gn, rfl, ag, bk, gA⟩
  obtain ⟨aD, aP, aE, rfl⟩ := bk.form
  refine rk_ ag.wf [i_ 0, .slice none 0 0] fun cX f4 aj am ev => ?_
  have fx := (bk.ext aj)
  obtain ⟨cS, d_, ak, aQ⟩ := ra_ 46 0 aj.wf ev [i_ ax.1, .slice aD aP aE] [i_ ax.1, .slice aD aP aE]
  refine ek_ d_ (Za (dM _ _ (sq_ fun dN => sq_ fun dO => ?_)))
  obtain ⟨bU, bL, b5⟩ := bs_ eu
  refine Zv (fun α bw => Has α [(1, i_ s), (2, i_ t), (9, fL), (10, .int .u64 aC.1), (12, .slice cV dY cY), (13, fM), (16, pt_ cX 0), (121, .bool bU)] /\ cS = bw) (fun _ aA => ?_) (fun α bw hM => ?_)
  ·refine g_' (qs_ 1 ?_)
   have dZ := (t_ (t_ (t_ (t_ (t_ aa.n Y.n) X.n) J.n) O.n) ag.n)
   have c0 := (am.djn (bm.lt.le dZ))
   have fy := ((((((((bm.fr aa dn_).fr Y dn_).fr X dn_).fr J dn_).fr O dn_).fr ag dn_).ext aj).fr ak c0)
   rcases (fy).cases with ⟨a5, rfl⟩ | ⟨a5, e9, fT, rfl⟩
   ·have b6 := Zf a5 bL
    refine qs_ 3 ?_
    refine sb_ (s < 0) (fun a6 => ?_) fun a6 => ?_
    ·have ew := Zf a6 b6
     refine qs_ 17 (Za ?_)
     obtain rfl := oi_ ew
     exact aA _ _ ⟨ha_, rfl⟩
    have b7 := Zj a6 b6
    refine qs_ 3 ?_
    refine sb_ (t < 0) (fun a7 => ?_) fun a7 => ?_
    ·have ey := Zf a7 b7
     refine qs_ 13 (Za ?_)
     obtain rfl := oi_ ey
     exact aA _ _ ⟨ha_, rfl⟩
    have b8 := Zj a7 b7
    refine qs_ 4 (lr_ 3 0 (i_ ax.1) aQ ?_)
    refine sb_ (s ≥ ax.1) (fun a9 => ?_) fun a9 => ?_
    ·have ez := Zf a9 b8
     refine qs_ 7 (Za ?_)
     obtain rfl := oi_ ez
     exact aA _ _ ⟨ha_, rfl⟩
    have eA := Zj a9 b8
    refine qs_ 4 (lr_ 3 0 (i_ ax.1) aQ (qs_ 2 (Za ?_)))
    obtain rfl := oi_ eA
    exact aA _ _ ⟨ha_, rfl⟩
   have eB := Zj a5 bL
   refine l_' (.bool true) (Zaw Tryz.prog .neq 33 (.tmp 100) (.const .nilIface) (.iface e9 fT) .nilIface) (ZU (by kernel_rfl)) (qs_ 20 (Za ?_))
   obtain rfl := oi_ eB
   exact aA _ _ ⟨ha_, rfl⟩
  obtain ⟨bG, rfl⟩ := hM
  obtain ⟨β, rfl⟩ := Zi bG
  clear bG
  refine dO _ _ ?_
  refine wb_ (bU) (fun a_ => ?_) fun a_ => ?_
  ·have eC := Zf a_ b5
   refine sn_ ?_
   refine Zp (Zk ?_)
   refine br_ [.bool false] ?_
   have d0 := (t_ (t_ (t_ (t_ (t_ (t_ (t_ (t_ (t_ (t_ (t_ (t_ Z.n V.n) ab.n) ac.n) ae.n) af.n) ad.n) aa.n) Y.n) X.n) J.n) O.n) ag.n)
   obtain rfl := oi_ eC
   exact ⟨rfl, (fs_ z ((fs_ z (fs_ z (fs_ z (fs_ z (fs_ z (fs_ z (fs_ z (fs_ z ((fs_ z (fs_ z (fs_ z ((f0_ z).extR Z) V in_) ab in_) ac in_).extR ae) af (ah.fresh ai)) ad in_) aa in_) Y in_) X in_) J in_) O in_) ag in_).extR aj) ak (am.fresh d0))⟩
  have eD := ZL a_ b5
  refine Zg (dN _ _ (sq_ fun dP => g_' (lr_ 46 0 (.agg #[i_ ax.1, .slice aD aP aE]) aQ ?_)))
  have cF := (fx.fr ak (am.djn bk.lt))
  obtain ⟨aR, dx, eF⟩ := bs_ eD
  refine ck_ (Zev ak.wf cF.sq dx) ?_
  rintro gH bx ⟨_, da, rfl, al, aO, gB⟩
  obtain ⟨bC, bQ, bD, rfl⟩ := aO.form
  refine qs_ 1 ?_
  obtain ⟨aF, eH⟩ := Zb eF
  refine aO.ix_ 49 aF.1 aF.2 ?_
  obtain ⟨gd, go, dg, dm, dh, dk⟩ := aO.kid aF.1 aF.2
  obtain ⟨e1, rfl, di⟩ := Zat dg
  have bi : KdS (Zh .u64) 1 bx e1 (gt aR s) da (.slice bC bQ bD) 1 s.toNat 0 := ⟨di.sq.up dm aO.lt, dk 0 _ rfl (by decide)⟩
  obtain ⟨cW, d1, cZ, rfl⟩ := bi.sq.form
  refine l_' (.slice cW d1 cZ) (aL_ 48 (elp (.slice bC bQ bD) 1 s.toNat 0) bx) (dh _ _ _ _ (by kernel_rfl)) (qs_ 1 ?_)
  obtain ⟨aG, eI⟩ := Zb eH
  refine bi.sq.ix_ 48 aG.1 aG.2 (le_ 35 0 (.int .u64 (gt (gt aR s) t)) bi.sq aG.1 aG.2 (qs_ 1 (Za (dP _ _ (sq_ fun dQ => g_' ?_)))))
  have fB := (aQ.frS al dn_)
  refine lr_ 46 0 (.agg #[i_ ax.1, .slice aD aP aE]) fB (qs_ 3 ?_)
  have fC := (cF.fr al dn_)
  have bR := (t_ (t_ J.n O.n) ag.n)
  have c1 := (am.djn (aB.lt.le bR))
  have fD := ((((((aB.fr J dn_).fr O dn_).fr ag dn_).ext aj).fr ak c1).fr al dn_)
  obtain ⟨az, dy, b9⟩ := bs_ eI
  refine ck_ (Zfs al.wf fC.sq fD.sq dy) ?_
  rintro _ f6 ⟨rfl, av⟩
  refine qs_ 5 (Za (dQ _ _ (sq_ fun ay => g_' (qs_ 1 ?_))))
  have c2 := (am.djn (aN.lt.le bR))
  have fF := (((((((aN.fr J dn_).fr O dn_).fr ag dn_).ext aj).fr ak c2).fr al dn_).fr av dn_)
  rcases (fF).cases with ⟨ba, rfl⟩ | ⟨ba, e_, fU, rfl⟩
  ·have b_ := Zf ba b9
   refine qs_ 2 (q_ (.bool az.2) (q_ (.bool az.2) (q_ (.bool az.2) ?_)))
   by_cases aH : az.2 = true
   ·have ca := Zf aH b_
    rw [aH]
    refine qs_ 2 ?_
    refine sb_ (az.1 ≤ aC.1) (fun bb => ?_) fun bb => ?_
    ·have cb := Zf bb ca
     refine qs_ 4 ?_
     refine sb_ ((gt (gt aR s) t) ≤ az.1) (fun bc => ?_) fun bc => ?_
     ·have cc := Zf bc cb
      refine qs_ 3 ?_
      have d2 := (t_ (t_ (t_ (t_ Y.n X.n) J.n) O.n) ag.n)
      have c3 := (am.djn (bj.lt.le d2))
      have fH := (((((((((bj.fr Y dn_).fr X dn_).fr J dn_).fr O dn_).fr ag dn_).ext aj).fr ak c3).fr al dn_).fr av dn_)
      rcases (fH).cases with ⟨bd, rfl⟩ | ⟨bd, fa, fV, rfl⟩
      ·have eJ := Zf bd cc
       refine qs_ 8 (Za (ay _ _ ?_))
       refine Zp ?_
       refine br_ [.bool (decide (aC.1 = (gt (gt aR s) t)))] ?_
       have d3 := (t_ (t_ (t_ (t_ (t_ (t_ (t_ (t_ (t_ (t_ (t_ (t_ Z.n V.n) ab.n) ac.n) ae.n) af.n) ad.n) aa.n) Y.n) X.n) J.n) O.n) ag.n)
       obtain rfl := oi_ eJ
       exact ⟨rfl, (fs_ z (fs_ z (fs_ z ((fs_ z (fs_ z (fs_ z (fs_ z (fs_ z (fs_ z (fs_ z (fs_ z ((fs_ z (fs_ z (fs_ z ((f0_ z).extR Z) V in_) ab in_) ac in_).extR ae) af (ah.fresh ai)) ad in_) aa in_) Y in_) X in_) J in_) O in_) ag in_).extR aj) ak (am.fresh d3)) al in_) av in_)⟩
      have eK := Zj bd cc
      refine l_' (.bool true) (Zaw Tryz.prog .neq 33 (.tmp 154) (.const .nilIface) (.iface fa fV) .nilIface) (ZU (by kernel_rfl)) (qs_ 7 (Za (ay _ _ ?_)))
      refine Zp ?_
      refine br_ [.bool true] ?_
      have d4 := (t_ (t_ (t_ (t_ (t_ (t_ (t_ (t_ (t_ (t_ (t_ (t_ Z.n V.n) ab.n) ac.n) ae.n) af.n) ad.n) aa.n) Y.n) X.n) J.n) O.n) ag.n)
      obtain rfl := oi_ eK
      exact ⟨rfl, (fs_ z (fs_ z (fs_ z ((fs_ z (fs_ z (fs_ z (fs_ z (fs_ z (fs_ z (fs_ z (fs_ z ((fs_ z (fs_ z (fs_ z ((f0_ z).extR Z) V in_) ab in_) ac in_).extR ae) af (ah.fresh ai)) ad in_) aa in_) Y in_) X in_) J in_) O in_) ag in_).extR aj) ak (am.fresh d4)) al in_) av in_)⟩
     have eL := Zj bc cb
     refine qs_ 11 (Za (ay _ _ ?_))
     refine Zp ?_
     refine br_ [.bool false] ?_
     have d5 := (t_ (t_ (t_ (t_ (t_ (t_ (t_ (t_ (t_ (t_ (t_ (t_ Z.n V.n) ab.n) ac.n) ae.n) af.n) ad.n) aa.n) Y.n) X.n) J.n) O.n) ag.n)
     obtain rfl := oi_ eL
     exact ⟨rfl, (fs_ z (fs_ z (fs_ z ((fs_ z (fs_ z (fs_ z (fs_ z (fs_ z (fs_ z (fs_ z (fs_ z ((fs_ z (fs_ z (fs_ z ((f0_ z).extR Z) V in_) ab in_) ac in_).extR ae) af (ah.fresh ai)) ad in_) aa in_) Y in_) X in_) J in_) O in_) ag in_).extR aj) ak (am.fresh d5)) al in_) av in_)⟩
    have eM := Zj bb ca
    refine qs_ 16 (Za (ay _ _ ?_))
    refine Zp ?_
    refine br_ [.bool false] ?_
    have d6 := (t_ (t_ (t_ (t_ (t_ (t_ (t_ (t_ (t_ (t_ (t_ (t_ Z.n V.n) ab.n) ac.n) ae.n) af.n) ad.n) aa.n) Y.n) X.n) J.n) O.n) ag.n)
    obtain rfl := oi_ eM
    exact ⟨rfl, (fs_ z (fs_ z (fs_ z ((fs_ z (fs_ z (fs_ z (fs_ z (fs_ z (fs_ z (fs_ z (fs_ z ((fs_ z (fs_ z (fs_ z ((f0_ z).extR Z) V in_) ab in_) ac in_).extR ae) af (ah.fresh ai)) ad in_) aa in_) Y in_) X in_) J in_) O in_) ag in_).extR aj) ak (am.fresh d6)) al in_) av in_)⟩
   have eN := Zj aH b_
   rw [nb aH]
   refine qs_ 19 (Za (ay _ _ ?_))
   refine Zp ?_
   refine br_ [.bool false] ?_
   have d7 := (t_ (t_ (t_ (t_ (t_ (t_ (t_ (t_ (t_ (t_ (t_ (t_ Z.n V.n) ab.n) ac.n) ae.n) af.n) ad.n) aa.n) Y.n) X.n) J.n) O.n) ag.n)
   obtain rfl := oi_ eN
   exact ⟨rfl, (fs_ z (fs_ z (fs_ z ((fs_ z (fs_ z (fs_ z (fs_ z (fs_ z (fs_ z (fs_ z (fs_ z ((fs_ z (fs_ z (fs_ z ((f0_ z).extR Z) V in_) ab in_) ac in_).extR ae) af (ah.fresh ai)) ad in_) aa in_) Y in_) X in_) J in_) O in_) ag in_).extR aj) ak (am.fresh d7)) al in_) av in_)⟩
  have eO := Zj ba b9
  refine l_' (.bool false) (Zaw Tryz.prog .eql 33 (.tmp 138) (.const .nilIface) (.iface e_ fU) .nilIface) (Zgr (by kernel_rfl)) (qs_ 23 (Za (ay _ _ ?_)))
  refine Zp ?_
  refine br_ [.bool false] ?_
  have d8 := (t_ (t_ (t_ (t_ (t_ (t_ (t_ (t_ (t_ (t_ (t_ (t_ Z.n V.n) ab.n) ac.n) ae.n) af.n) ad.n) aa.n) Y.n) X.n) J.n) O.n) ag.n)
  obtain rfl := oi_ eO
  exact ⟨rfl, (fs_ z (fs_ z (fs_ z ((fs_ z (fs_ z (fs_ z (fs_ z (fs_ z (fs_ z (fs_ z (fs_ z ((fs_ z (fs_ z (fs_ z ((f0_ z).extR Z) V in_) ab in_) ac in_).extR ae) af (ah.fresh ai)) ad in_) aa in_) Y in_) X in_) J in_) O in_) ag in_).extR aj) ak (am.fresh d8)) al in_) av in_)⟩
 have eP := Zj a4 b4
 refine l_' (.bool true) (Zaw Tryz.prog .neq 33 (.tmp 85) (.const .nilIface) (.iface e8 fS) .nilIface) (ZU (by kernel_rfl)) (Za (bN _ _ ?_))
 refine wb_ true (fun _ => ?_) fun h => by cases h
 refine sq_ fun dR => ?_
 obtain ⟨bV, bM, eQ⟩ := bs_ eP
 refine Zv (fun α bz => Has α [(6, .bool bV)] /\ bt = bz) (fun _ bh => ?_) (fun α bz hM => ?_)
 ·refine g_' (qs_ 1 ?_)
  have fI := ((aN.fr J dn_).fr O dn_)
  rcases (fI).cases with ⟨be, rfl⟩ | ⟨be, fb, fW, rfl⟩
  ·have eS := Zf be bM
   refine qs_ 11 (Za ?_)
   obtain rfl := oi_ eS
   exact bh _ _ ⟨ha_, rfl⟩
  have cd := Zj be bM
  refine l_' (.bool true) (Zaw Tryz.prog .neq 33 (.tmp 87) (.const .nilIface) (.iface fb fW) .nilIface) (ZU (by kernel_rfl)) (qs_ 2 ?_)
  refine sb_ (aC.1 = 0) (fun bf => ?_) fun bf => ?_
  ·have eT := Zf bf cd
   refine qs_ 3 ?_
   have fJ := ((aB.fr J dn_).fr O dn_)
   refine fJ.sq.ln_ 38 (qs_ 3 (Za ?_))
   obtain rfl := oi_ eT
   exact bh _ _ ⟨ha_, rfl⟩
  have eU := Zj bf cd
  refine qs_ 7 (Za ?_)
  obtain rfl := oi_ eU
  exact bh _ _ ⟨ha_, rfl⟩
 obtain ⟨bH, rfl⟩ := hM
 obtain ⟨β, rfl⟩ := Zi bH
 clear bH
 refine dR _ _ ?_
 refine Zp (Zk ?_)
 refine br_ [.bool bV] ?_
 obtain rfl := oi_ eQ
 exact ⟨rfl, (fs_ z (fs_ z (fs_ z (fs_ z (fs_ z (fs_ z (fs_ z ((fs_ z (fs_ z (fs_ z ((f0_ z).extR Z) V in_) ab in_) ac in_).extR ae) af (ah.fresh ai)) ad in_) aa in_) Y in_) X in_) J in_) O in_)⟩
end Go.Vd
