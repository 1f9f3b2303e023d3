/- The walks of the functions (printed by a program of ours). -/
import Derived.Test.YtnepbkkdhalbiaaGreatDoorPsx2
import Derived.Test.YtnepbkkdhalbiaaGreatDoorPsxISx
import Derived.Test.YtnepbkkdhalbiaaGreatDoorPsxVeN
import Derived.Test.YtnepbkkdhalbiaaGreatDoorPsxSoA
import Derived.Test.YtnepbkkdhalbiaaGreatDoorPsxVeV
set_option linter.unusedVariables false
set_option linter.unusedSimpArgs false
set_option linter.unusedSectionVars false
/-! (KSx4) -/

set_option maxRecDepth 100000
set_option maxHeartbeats 4000000
set_option linter.unusedVariables false
namespace Go.Vd
open Go.Proofs
attribute [local irreducible] Zh Zk aWp
theorem ZdN {H : AH} {I : Nat} {ao : Value} {aG : Fp} {ax : List (Bool × List (Int × Int × Int) × List (Int × Int × Int))} {ay : Int} {az : Int} {V : Int} {ac : Int} {ad : Int} {ab : Int} {Z : Int} {aa : Int} {r : Int × Er}
    (e : WF H) (aK : Nd Zb 3 H ao ax aG []) (aJ : Row H I [ao, i_ ay, i_ az]) (ap : Zbr ax ay az V ac ad ab Z aa = some r) :
    ACalls Tryz.prog 23 #[pt_ I 0, i_ V, .agg #[i_ ac, i_ ad, i_ ab, i_ Z, i_ aa]] H fun v H' => ∃ (v3 : Value) (an : Fp), v = .tuple #[i_ r.1, v3] /\ FrS [] H H' /\ Ev 78 116 H' v3 r.2 an /\ Inn [] H an := by
 refine ab_ Tryz.func23 ?_
 unfold Zbr at ap
 refine sq_ fun aS => g_' ?_
 refine rl_ e [i_ ac, i_ ad, i_ ab, i_ Z, i_ aa] fun bd ba D bi aU => ?_
 refine q_ (i_ 0) (q_ (.nilIface) (Za (aS _ _ (sq_ fun aP => g_' (q_ (pt_ I 0) (q_ (i_ V) (lr_ 53 0 (.agg #[i_ ac, i_ ad, i_ ab, i_ Z, i_ aa]) aU ?_)))))))
 have aB := (aK.ext D)
 have aC := (aJ.ext D)
 obtain ⟨aj, aL, aA⟩ := bs_ ap
 refine ck_ (Zaz D.wf aB aC aL) ?_
 rintro _ a7 ⟨bo, f20, ai, f22, rfl, O, ar, au, bj, aO, bg⟩
 obtain ⟨ae, ah, af, rfl⟩ := ar.form
 refine q_ (.tuple #[.slice ae ah af, ai]) (q_ (.slice ae ah af) (q_ (ai) (q_ (.slice ae ah af) (q_ (ai) (Za (aP _ _ (sq_ fun aQ => sq_ fun aq => g_' (q_ (ai) ?_))))))))
 rcases (au).cases with ⟨al, rfl⟩ | ⟨al, U, Y, rfl⟩
 ·have aV := Zd al aA
  refine q_ (.bool false) (Za (aq _ _ ?_))
  refine wb_ false (fun h => by cases h) fun _ => ?_
  refine Zi (aQ _ _ (sq_ fun aR => g_' (q_ (.slice ae ah af) (ar.sq.ln_ 54 (q_ (pt_ I 0) (q_ (i_ V) ?_))))))
  have aD := (aB.fr O dn_)
  have aE := (aC.frS O dn_)
  obtain ⟨ak, aM, aW⟩ := bs_ aV
  refine ck_ (Zdj O.wf aD aE aM) ?_
  rintro bp a8 ⟨_, f48, rfl, ag, av, bk⟩
  obtain ⟨bb, bm, be, rfl⟩ := av.form
  refine av.sq.ln_ 75 ?_
  obtain ⟨aH, aX⟩ := Zc aW
  refine w_' (((aj.1.length : Int) - (ak.length : Int))) (Zs aH) (q_ (pt_ I 0) (q_ (i_ V) ?_))
  have a2 := (aD.fr ag dn_)
  have a6 := (aE.frS ag dn_)
  obtain ⟨am, aN, aY⟩ := bs_ aX
  refine ck_ (Zbq ag.wf a2 a6 aN) ?_
  rintro bq a_ ⟨_, bh, rfl, aF, aw, bl⟩
  obtain ⟨bc, bn, bf, rfl⟩ := aw.form
  refine aw.sq.ln_ 75 ?_
  obtain ⟨aI, aZ⟩ := Zc aY
  refine w_' ((((aj.1.length : Int) - (ak.length : Int)) - (am.length : Int))) (Zs aI) (q_ (i_ (((aj.1.length : Int) - (ak.length : Int)) - (am.length : Int))) (q_ (.nilIface) (Za (aR _ _ ?_))))
  refine Zf ?_
  refine br_ [i_ (((aj.1.length : Int) - (ak.length : Int)) - (am.length : Int)), .nilIface] ?_
  obtain rfl := oi_ aZ
  exact ⟨(.nilIface), [], rfl, (fs_ e (fs_ e (fs_ e ((f0_ e).extR D) O in_) ag in_) aF in_), Ev.nil, in_⟩
 have a1 := Zj al aA
 refine l_' (.bool true) (Z2 Tryz.prog .neq 38 (.tmp 17) (.const .nilIface) (.iface U Y) .nilIface) (Z4 (by kernel_rfl)) (Za (aq _ _ ?_))
 refine wb_ true (fun _ => ?_) fun h => by cases h
 refine sq_ fun aT => g_' (q_ (.iface U Y) (q_ (i_ 0) (q_ (.iface U Y) (Za (aT _ _ ?_)))))
 refine Zf (Zg ?_)
 refine br_ [i_ 0, .iface U Y] ?_
 obtain rfl := oi_ a1
 exact ⟨(.iface U Y), f22, rfl, (fs_ e ((f0_ e).extR D) O in_), au, (aO.fresh D.n)⟩
theorem Zb6 {H : AH} {ae : Value} {aO : Fp} {l : List (Int × Int × Int)} {r : List (Int × Int × Int)}
    (D : WF H) (ax : Sq Zw 3 H ae l aO) (aE : Zaj l = some r) :
    ACalls Tryz.prog 22 #[ae] H fun v H' => ∃ (aJ : Value) (av : Fp), v = aJ /\ FrS [] H H' /\ Ow Zw 3 H' aJ r av /\ Inn [] H av := by
 refine ab_ Tryz.func22 ?_
 unfold Zaj at aE
 refine sq_ fun a6 => g_' (q_ (.slice none 0 0) (Za (a6 _ _ (sq_ fun a7 => g_' (q_ (.slice none 0 0) (Za (a7 _ _ (sq_ fun a8 => sq_ fun a_ => g_' (q_ (ae) (ax.ln_ 54 (q_ (i_ 0) (Za (a_ _ _ ?_)))))))))))))
 obtain ⟨aI, aU, bf⟩ := bs_ aE
 refine ZP (fun α ah => ∃ (ap : Value) (ad : Fp), Has α [(3, ap)] /\ FrS [] H ah /\ Ow Zw 3 ah ap aI ad /\ Inn [] H ad) (fun _ aW => ?_) (fun α ah hM => ?_)
 ·refine Zr ?_
  obtain ⟨aG, aT⟩ := ZC.1 aU
  refine Z9 (fun n α ai => ∃ (V : List (Int × Int × Int)), ∃ (e : Int), ∃ (aq : Value), ∃ (f29 : Fp), ZT (fun zz_ => Za3 l zz_.1 zz_.2) n (V, e) = some aI /\ Has α [(3, aq), (6, ae), (7, i_ (l.length : Int)), (8, i_ e)] /\ FrS [] H ai /\ Ow Zw 3 ai aq V f29 /\ Inn [] H f29) aG ⟨[], 0, (.slice none 0 0), [], aT, ha_, (f0_ D), (Ow.nil (by decide)), in_⟩ ?_
  rintro aG α ai ⟨V, e, aq, f29, aS, aA, I, af, am⟩ bs aX
  obtain ⟨bb, bn, rfl, U, aD⟩ := ZJ aS
  obtain ⟨β, rfl⟩ := Zo aA
  clear aA
  replace U : Za3 l V e = some bn := U
  unfold Za3 at U
  obtain ⟨ar, aH, au, rfl⟩ := af.form
  refine sq_ fun aY => g_' (q_ (.bool (decide (e < (l.length : Int)))) (Za (aY _ _ (sq_ fun aZ => ?_))))
  refine wc_ (e < (l.length : Int)) (fun O => ?_) fun O => ?_
  ·have bg := Zd O U
   refine Zi (aZ _ _ (sq_ fun a1 => Zr (sq_ fun a2 => g_' ?_)))
   obtain ⟨aw, bh⟩ := Zc bg
   have aK := (ax.fr I dn_)
   refine aK.ix_ 54 aw O (le_ 131 0 (.agg #[i_ ((gt l e).1), i_ ((gt l e).2.1), .int .u64 ((gt l e).2.2)]) aK aw O ?_)
   refine rk_ I.wf [i_ 0, i_ 0, .int .u64 0] fun ak bo aa ay bi => ?_
   obtain ⟨bp, bd, ab, ao⟩ := ra_ 131 0 aa.wf bi [i_ ((gt l e).1), i_ ((gt l e).2.1), .int .u64 ((gt l e).2.2)] [i_ ((gt l e).1), i_ ((gt l e).2.1), .int .u64 ((gt l e).2.2)]
   refine ek_ bd (Za (a2 _ _ (g_' (q_ (.slice ar aH au) (q_ (pt_ ak 0) (lr_ 3 0 (i_ ((gt l e).1)) ao (q_ (pt_ ak 1) (lr_ 3 1 (i_ ((gt l e).2.1)) ao (q_ (pt_ ak 2) (lr_ 27 2 (.int .u64 ((gt l e).2.2)) ao (q_ (.agg #[i_ ((gt l e).1), i_ ((gt l e).2.1), .int .u64 ((gt l e).2.2)]) ?_)))))))))))
   refine Zcz (enc := Zw) (sz := 3) ab.wf [((gt l e).1, (gt l e).2.1, (gt l e).2.2)] 1 (by decide) (fun _ _ => rfl) (fun _ _ => rfl) rfl (by kernel_rfl) fun bx bu bq ac bv aB => ?_
   obtain ⟨a66, bw, bt, rfl⟩ := aB.form
   have bm := (((af.ext aa).fr ab (ay.djn af.lt)).ext ac)
   obtain ⟨aP, bj⟩ := Zc bh
   obtain ⟨bz, br, aN, be, aM, aC, aR⟩ := Ow.append (P := Tryz.prog) 24 ac.wf bm aB.sq (fun _ _ => rfl) (at_ := #[57, 57]) rfl rfl (by kernel_rfl) (by kernel_rfl) (by decide) (by have := aP; first | omega | (simp only [List.length_cons, List.length_nil] at this ⊢; omega) | (simp at this ⊢; omega))
   obtain ⟨aj, an, al, rfl⟩ := aC.form
   refine ZcJ (.slice aj an al) (by kernel_rfl) (be) ?_
   refine q_ (.slice aj an al) (Za (a1 _ _ (g_' ?_)))
   obtain ⟨aQ, bk⟩ := Zc bj
   refine w_' ((e + 1)) (Zs (by have := aQ; omega)) (q_ (i_ (e + 1)) (Za ?_))
   have bc := (t_ (t_ (t_ I.n aa.n) ab.n) ac.n)
   obtain rfl := oi_ bk
   exact aX bb _ _ lt_ ⟨(V ++ [((gt l e).1, (gt l e).2.1, (gt l e).2.2)]), (e + 1), (.slice aj an al), aN, aD, ha_, (fs_ D ((fs_ D ((fs_ D (f0_ D) I in_).extR aa) ab (ay.fresh I.n)).extR ac) aM (am.fresh (Nat.le_refl _))), aC, (Inn.trans (am.fresh (Nat.le_refl _)) bc aR)⟩
  have bl := Zj O U
  refine Zaf (Zq (Zq (Zau ?_)))
  obtain rfl := oi_ bl
  obtain rfl := ZL aD
  exact aW _ _ ⟨(.slice ar aH au), f29, ha_, (fs_ D (f0_ D) I in_), af, (am.fresh (Nat.le_refl _))⟩
 obtain ⟨ap, ad, az, aL, aF, aV⟩ := hM
 obtain ⟨β, rfl⟩ := Zo az
 clear az
 obtain ⟨Y, ag, Z, rfl⟩ := aF.form
 refine a8 _ _ (sq_ fun ba => g_' (q_ (.slice Y ag Z) (q_ (.slice Y ag Z) (Za (ba _ _ ?_)))))
 refine Zf ?_
 refine br_ [.slice Y ag Z] ?_
 obtain rfl := oi_ bf
 exact ⟨(.slice Y ag Z), ad, rfl, (fs_ D (f0_ D) aL in_), aF, (aV.fresh (Nat.le_refl _))⟩
theorem ZbQ {H : AH} {D : Value} {ap : Fp} {O : Value} {aq : Fp} {a : List (Int × Int × Int)} {b : List (Int × Int × Int)} {r : Bool}
    (aX : WF H) (Y : Sq Zw 3 H D a ap) (ab : Sq Zw 3 H O b aq) (ad : Zaa a b = some r) :
    ACalls Tryz.prog 21 #[D, O] H fun v H' => v = .bool r /\ H = H' := by
 refine ab_ Tryz.func21 ?_
 unfold Zaa at ad
 refine sq_ fun k1 => g_' (q_ (.bool false) (Za (k1 _ _ (sq_ fun k2 => sq_ fun k3 => g_' (q_ (D) (Y.ln_ 57 (q_ (O) (ab.ln_ 57 (q_ (.bool (!decide ((a.length : Int) = (b.length : Int)))) (Za (k3 _ _ ?_)))))))))))
 refine Zdx ((a.length : Int) = (b.length : Int)) (by kernel_rfl) rfl (fun Z => ?_) (fun Z => ?_)
 ·have aR := Zj Z ad
  refine sq_ fun aI => g_' (q_ (.bool false) (Za (aI _ _ ?_)))
  refine Zf (Zg ?_)
  refine br_ [.bool false] ?_
  obtain rfl := oi_ aR
  exact ⟨rfl, rfl⟩
 have aU := Zd Z ad
 refine Zi (k2 _ _ (sq_ fun aJ => sq_ fun aK => g_' (q_ (D) (Y.ln_ 57 (q_ (i_ 0) (Za (aK _ _ ?_)))))))
 obtain ⟨ao, ax, am⟩ := bs_ aU
 refine ZP (fun α ae => ∃ al, ao = Sum.inr al /\ Has α [] /\ H = ae) (fun _ az => ?_) (fun α ae hM => ?_)
 ·refine Zr ?_
  obtain ⟨ak, av⟩ := ZC.1 ax
  refine Z9 (fun n α af => ∃ (e : Int), ZT (fun zz_ => ZaF a b zz_) n e = some ao /\ Has α [(0, D), (1, O), (12, i_ (a.length : Int)), (13, i_ e)] /\ H = af) ak ⟨0, av, ha_, rfl⟩ ?_
  rintro ak α af ⟨e, au, ai, rfl⟩ aV aA
  obtain ⟨aL, z25, rfl, U, ac⟩ := ZJ au
  obtain ⟨β, rfl⟩ := Zo ai
  clear ai
  replace U : ZaF a b e = some z25 := U
  unfold ZaF at U
  refine sq_ fun aB => g_' (q_ (.bool (decide (e < (a.length : Int)))) (Za (aB _ _ (sq_ fun aC => ?_))))
  refine wc_ (e < (a.length : Int)) (fun I => ?_) fun I => ?_
  ·have aM := Zd I U
   refine Zi (aC _ _ (sq_ fun aD => Zr (sq_ fun aE => g_' (q_ (i_ e) (q_ (i_ e) (Za (aE _ _ (sq_ fun aF => ?_))))))))
   refine Z0 [0, 1, 2, 3, 4, 5, 6, 7, 8] (by kernel_rfl) ?_
   refine e_' (D) (e_' (i_ e) ?_)
   obtain ⟨V, aN⟩ := Zc aM
   refine Y.mx_ 57 V I (me_ 72 0 (.agg #[i_ ((gt a e).1), i_ ((gt a e).2.1), .int .u64 ((gt a e).2.2)]) Y V I (e_' (O) (e_' (i_ e) ?_)))
   obtain ⟨ag, an⟩ := Zc aN
   refine ab.mx_ 57 V ag (me_ 72 0 (.agg #[i_ ((gt b e).1), i_ ((gt b e).2.1), .int .u64 ((gt b e).2.2)]) ab V ag (m_' (.bool (!decide (((gt a e).1) = ((gt b e).1) /\ ((gt a e).2.1) = ((gt b e).2.1) /\ ((gt a e).2.2) = ((gt b e).2.2)))) (Z2 Tryz.prog .neq 72 (.tmp 19) (.tmp 23) (.agg #[i_ ((gt a e).1), i_ ((gt a e).2.1), .int .u64 ((gt a e).2.2)]) (.agg #[i_ ((gt b e).1), i_ ((gt b e).2.1), .int .u64 ((gt b e).2.2)])) (ZjV _ _ ((gt a e).1) ((gt a e).2.1) ((gt a e).2.2) ((gt b e).1) ((gt b e).2.1) ((gt b e).2.2)) ?_))
   refine ZO ?_
   refine aF _ _ ?_
   refine Zdx (((gt a e).1) = ((gt b e).1) /\ ((gt a e).2.1) = ((gt b e).2.1) /\ ((gt a e).2.2) = ((gt b e).2.2)) (by kernel_rfl) rfl (fun aa => ?_) (fun aa => ?_)
   ·have aO := Zj aa an
    refine sq_ fun aG => g_' (q_ (.bool false) (Za (aG _ _ ?_)))
    refine Zf (Z6 (Zg (Zg (Z6 (Zg (Zg ?_))))))
    obtain ⟨aW, aj, ay⟩ := map_some aO
    subst ay
    obtain rfl := ZL ac
    have aw := elim_inl am
    rw [aw] at aj
    refine br_ [.bool false] ?_
    obtain rfl := oi_ aj
    exact ⟨rfl, rfl⟩
   have aP := Zd aa an
   refine Zi (aD _ _ (g_' ?_))
   obtain ⟨ar, aQ⟩ := Zc aP
   refine w_' ((e + 1)) (Zs (by have := ar; omega)) (q_ (i_ (e + 1)) (Za ?_))
   obtain rfl := oi_ aQ
   exact aA aL _ _ lt_ ⟨(e + 1), ac, ha_, rfl⟩
  have aS := Zj I U
  refine Zaf (Zq (Zq (Zau ?_)))
  obtain rfl := oi_ aS
  obtain rfl := ZL ac
  exact az _ _ ⟨_, rfl, trivial, rfl⟩
 obtain ⟨al, rfl, ah, rfl⟩ := hM
 have aT := elim_inr am
 obtain ⟨β, rfl⟩ := Zo ah
 clear ah
 refine aJ _ _ (sq_ fun aH => g_' (q_ (.bool true) (Za (aH _ _ ?_))))
 refine Zf ?_
 refine br_ [.bool true] ?_
 obtain rfl := oi_ aT
 exact ⟨rfl, rfl⟩
theorem ZdQ {H : AH} {D : Value} {U : Fp} {l : List (Int × Int × Int)} {ac : Int} {r : List (Int × Int × Int)}
    (O : WF H) (aa : Ow Zb 3 H D l U) (af : Za4 l ac = some r) :
    ACalls Tryz.prog 63 #[D, i_ ac] H fun v H' => ∃ (ah : Value) (ad : Fp), v = ah /\ FrS U H H' /\ Ow Zb 3 H' ah r ad /\ Inn U H ad := by
 refine ab_ Tryz.func63 ?_
 unfold Za4 at af
 refine sq_ fun ar => g_' (q_ (.slice none 0 0) (Za (ar _ _ (sq_ fun au => g_' (q_ (D) (q_ (i_ ac) ?_))))))
 obtain ⟨e, am, ag⟩ := bs_ af
 refine ck_ (Zdt O aa.sq am) ?_
 rintro _ aB ⟨rfl, I⟩
 refine q_ (.tuple #[i_ e.1, .bool e.2]) (q_ (i_ e.1) (q_ (.bool e.2) (q_ (i_ e.1) (q_ (.bool e.2) (Za (au _ _ (sq_ fun an => sq_ fun ao => g_' (q_ (.bool e.2) (q_ (.bool (!e.2)) (Za (ao _ _ ?_)))))))))))
 refine wb_ ((!e.2)) (fun Z => ?_) fun Z => ?_
 ·have av := Zd Z ag
  refine sq_ fun ap => g_' (q_ (D) (q_ (D) (Za (ap _ _ ?_))))
  refine Zf (Zg ?_)
  refine br_ [D] ?_
  have az := (aa.fr I dn_)
  obtain rfl := oi_ av
  exact ⟨(D), U, rfl, (fs_ O (fr_ O) I in_), az, ir_⟩
 have aw := ZQ Z ag
 refine Zi (an _ _ (sq_ fun aq => g_' (q_ (D) (q_ (i_ e.1) (q_ (i_ e.1) ?_)))))
 obtain ⟨aj, ax⟩ := Zc aw
 refine w_' ((e.1 + 1)) (Zs aj) ?_
 have aA := (aa.fr I dn_)
 obtain ⟨ak, ay⟩ := Zc ax
 refine ZeX 87 #[D, i_ e.1, i_ (e.1 + 1)] (by kernel_rfl) (Zls I.wf aA ak) ?_
 rintro aD aC ⟨f28, ai, ae, al⟩
 obtain ⟨V, ab, Y, rfl⟩ := ae.form
 refine q_ (.slice V ab Y) (Za (aq _ _ ?_))
 refine Zf ?_
 refine br_ [.slice V ab Y] ?_
 obtain rfl := oi_ ay
 exact ⟨(.slice V ab Y), f28, rfl, (fs_ O (fs_ O (fr_ O) I in_) ai ir_), ae, (Inn.trans ir_ I.n al)⟩
theorem Zd9 {H : AH} {I : Nat} {V : Value} {aM : Fp} {D : List (Bool × List (Int × Int × Int) × List (Int × Int × Int))} {av : Int} {an : Int} {e : Int} {r : Er × List (Bool × List (Int × Int × Int) × List (Int × Int × Int)) × Int × Int}
    (ag : WF H) (aY : Nd Zb 3 H V D aM []) (Z : Row H I [V, i_ av, i_ an]) (bk : Dj aM [I]) (b_ : Zap D av an e = some r) :
    ACalls Tryz.prog 40 #[pt_ I 0, i_ e] H fun v H' => ∃ (v3 : Value) (bn : Fp) (bo : Fp), v = v3 /\ FrS ([I] ++ aM) H H' /\ Ev 78 116 H' v3 r.1 bn /\ Nd Zb 3 H' V r.2.1 bo [] /\ Row H' I [V, i_ r.2.2.1, i_ r.2.2.2] /\ Inn [] H bn /\ Inn aM H bo /\ Dj bn bo := by
 refine ab_ Tryz.func40 ?_
 unfold Zap at b_
 refine sq_ fun dI => g_' (q_ (.nilIface) (Za (dI _ _ (sq_ fun dJ => sq_ fun dK => g_' (q_ (pt_ I 0) (q_ (.bool false) (Za (dK _ _ ?_))))))))
 refine wb_ false (fun h => by cases h) fun _ => ?_
 refine Zi (dJ _ _ (sq_ fun dL => sq_ fun dM => g_' (q_ (pt_ I 0) (q_ (i_ e) ?_))))
 obtain ⟨cE, dE, cn⟩ := bs_ b_
 refine ck_ (ZH ag aY Z dE) ?_
 rintro _ _ ⟨rfl, rfl⟩
 refine q_ (.bool (!cE)) (Za (dM _ _ ?_))
 refine wb_ ((!cE)) (fun bp => ?_) fun bp => ?_
 ·have eF := Zd bp cn
  refine sq_ fun dV => g_' (q_ (.iface 78 (i_ 7)) (q_ (.iface 78 (i_ 7)) (Za (dV _ _ ?_))))
  refine Zf (Zg ?_)
  refine br_ [.iface 78 (i_ 7)] ?_
  obtain rfl := oi_ eF
  exact ⟨(.iface 78 (i_ 7)), [], aM, rfl, (fr_ ag), Ev.no, aY, Z, in_, ir_, dn_⟩
 have eH := ZQ bp cn
 refine Zi (dL _ _ (sq_ fun dW => g_' (q_ (pt_ I 0) (q_ (pt_ I 0) (q_ (pt_ I 0) (lr_ 123 0 (V) Z (q_ (i_ e) ?_)))))))
 obtain ⟨af, eK⟩ := Zc eH
 refine aY.ix_ 123 af.1 af.2 ?_
 obtain ⟨fF, fG, aK, fx, fy, dm, bs, a7, aP, bi, bj, fm, dy, dz, dA⟩ := Nd.open2 aY af.1 af.2
 have aw := Inn.sub' (H := H) dy
 have fH := Inn.sub' (H := H) dz
 have fI := Inn.sub' (H := H) dA
 obtain ⟨ax, aH, az, rfl⟩ := a7.form
 obtain ⟨ay, aI, aA, rfl⟩ := aP.form
 refine l_' (.agg #[.bool ((gt D e).1), .slice ax aH az, .slice ay aI aA]) (aL_ 138 (elp V 3 e.toNat 0) H) (dm _ _ _ (by kernel_rfl)) ?_
 refine rk_ ag [.bool false, .slice none 0 0, .slice none 0 0] fun ak fb ab am cr => ?_
 have e0 := (aP.ext ab)
 have e1 := (a7.ext ab)
 obtain ⟨aU, es, Y, cu⟩ := ra_ 138 0 ab.wf cr [.bool ((gt D e).1), .slice ax aH az, .slice ay aI aA] [.bool ((gt D e).1), .slice ax aH az, .slice ay aI aA]
 refine ek_ es (Za (dW _ _ (sq_ fun d1 => sq_ fun d2 => g_' (q_ (pt_ ak 1) (lr_ 75 1 (.slice ax aH az) cu ?_)))))
 have bG := (e1.fr Y (am.djn a7.lt))
 refine bG.sq.ln_ 75 (q_ (i_ 0) (Za (d2 _ _ ?_)))
 obtain ⟨bx, dC, eQ⟩ := bs_ eK
 refine ZP (fun α aq => ∃ (al : Fp), Has α [(0, pt_ I 0), (1, i_ e), (5, pt_ ak 0)] /\ FrS aK aU aq /\ Nd Zb 3 aq V bx al [(e.toNat, true), (e.toNat, false)] /\ Inn aK aU al) (fun _ d3 => ?_) (fun α aq hM => ?_)
 ·refine Zr ?_
  obtain ⟨cj, dq⟩ := ZC.1 dC
  have e2 := ((bs.ext ab).fr Y (am.djn bs.lt))
  refine Z9 (fun n α bg => ∃ (ae : List (Bool × List (Int × Int × Int) × List (Int × Int × Int))), ∃ (O : Int), ∃ (aL : Fp), ZT (fun zz_ => ZY D e zz_.1 zz_.2) n (ae, O) = some bx /\ Has α [(0, pt_ I 0), (1, i_ e), (5, pt_ ak 0), (26, .slice ax aH az), (27, i_ (((gt D e).2.1).length : Int)), (28, i_ O)] /\ FrS aK aU bg /\ Nd Zb 3 bg V ae aL [(e.toNat, true), (e.toNat, false)] /\ Inn aK aU aL) cj ⟨D, 0, aK, dq, ha_, (fr_ Y.wf), e2, ir_⟩ ?_
  rintro cj α bg ⟨ae, O, aL, df, b7, ai, a_, aT⟩ fd d4
  obtain ⟨ej, e6, rfl, aR, b9⟩ := ZJ df
  obtain ⟨β, rfl⟩ := Zo b7
  clear b7
  replace aR : ZY D e ae O = some e6 := aR
  unfold ZY at aR
  refine sq_ fun d5 => g_' (q_ (.bool (decide (O < (((gt D e).2.1).length : Int)))) (Za (d5 _ _ (sq_ fun d6 => ?_))))
  refine wc_ (O < (((gt D e).2.1).length : Int)) (fun aN => ?_) fun aN => ?_
  ·have et := Zd aN aR
   refine Zi (d6 _ _ (sq_ fun dG => Zr (sq_ fun dH => g_' ?_)))
   obtain ⟨bU, eu⟩ := Zc et
   have cv := (bG.fr ai bi)
   refine cv.sq.ix_ 75 bU aN (le_ 80 0 (.agg #[i_ ((gt ((gt D e).2.1) O).1), .int .u64 ((gt ((gt D e).2.1) O).2.1), i_ ((gt ((gt D e).2.1) O).2.2)]) cv.sq bU aN ?_)
   refine rk_ ai.wf [i_ 0, .int .u64 0, i_ 0] fun aV e7 aB aZ cm => ?_
   obtain ⟨ao, ek, ar, bz⟩ := ra_ 80 0 aB.wf cm [i_ ((gt ((gt D e).2.1) O).1), .int .u64 ((gt ((gt D e).2.1) O).2.1), i_ ((gt ((gt D e).2.1) O).2.2)] [i_ ((gt ((gt D e).2.1) O).1), .int .u64 ((gt ((gt D e).2.1) O).2.1), i_ ((gt ((gt D e).2.1) O).2.2)]
   refine ek_ ek (Za (dH _ _ ?_))
   refine Z0 [0, 1, 2, 3, 4, 5, 6, 7, 8, 9, 10, 11, 12, 13, 14, 15, 16, 17, 18, 19] (by kernel_rfl) ?_
   refine e_' (pt_ I 0) (e_' (pt_ I 0) (e_' (pt_ I 0) ?_))
   have bJ := (aw.dj bk Z.ltF)
   have d9 := (t_ (t_ ab.n Y.n) ai.n)
   have cM := (aZ.djn (Z.ltF.le d9))
   have bB := (((((Z.ext ab).frS Y (am.djn Z.ltF)).frS ai bJ).ext aB).frS ar cM)
   refine ZcU (V) (x := aL_ 123 (pt_ I 0) ao) (by kernel_rfl) (bB.l_) ?_
   refine e_' (pt_ aV 0) ?_
   refine ZcU (i_ ((gt ((gt D e).2.1) O).1)) (x := aL_ 3 (pt_ aV 0) ao) (by kernel_rfl) (bz.l_) ?_
   refine e_' (pt_ I 0) (e_' (pt_ I 0) (e_' (pt_ I 0) (mr_ 123 0 (V) bB (e_' (pt_ aV 0) (mr_ 3 0 (i_ ((gt ((gt D e).2.1) O).1)) bz ?_)))))
   obtain ⟨ac, ew⟩ := Zc eu
   have ba := ((a_.ext aB).fr ar (aZ.djn a_.lt))
   refine ba.mx_ 123 ac.1 ac.2 (m_' (elp V 3 ((gt ((gt D e).2.1) O).1).toNat 2) (Zv Tryz.prog 138 (elp V 3 ((gt ((gt D e).2.1) O).1).toNat 0) 2) (Nd.fldq (d := 2) ba ac.1 ac.2 (by kernel_rfl)) ?_)
   obtain ⟨bV, ex⟩ := Zc ew
   obtain ⟨fD, eR, di, dg⟩ := Nd.at ba ac.1 ac.2
   have cd : KdS Zb 3 ao eR ((gt ae ((gt ((gt D e).2.1) O).1)).2.2) aL V 3 ((gt ((gt D e).2.1) O).1).toNat 2 := dg true (by have := bV; have := ac.1; have := af.1; simp; omega)
   obtain ⟨cI, d_, cK, rfl⟩ := cd.sq.form
   refine m_' (.slice cI d_ cK) (aL_ 75 (elp V 3 ((gt ((gt D e).2.1) O).1).toNat 2) ao) (di _ _ _ _ (by kernel_rfl)) (e_' (i_ e) ?_)
   obtain ⟨c6, fo, a2, dr, bK, du, dv⟩ := Nd.borrow true ba ac.1 ac.2 (by have := bV; have := ac.1; have := af.1; simp; omega) cd rfl
   have cB := Inn.sub' (H := ao) du
   have bc := Inn.sub' (H := ao) dv
   have a2 : Nd Zb 3 ao V ae c6 [(((gt ((gt D e).2.1) O).1).toNat, true), (e.toNat, true), (e.toNat, false)] := a2
   obtain ⟨cD, dD, ey⟩ := bs_ ex
   refine dk_ (ZdQ ar.wf dr dD) ?_
   rintro fB bH ⟨_, fu, rfl, aC, cf, ca⟩
   obtain ⟨ff, fz, fh, rfl⟩ := cf.form
   have ea := (t_ ab.n Y.n)
   have cN := (aT.dj bJ (Z.ltF.le ea))
   have eb := (t_ (t_ (t_ (t_ ab.n Y.n) ai.n) aB.n) ar.n)
   have cO := (bc.dj cN (Z.ltF.le eb))
   have eS := (bB.frS aC cO)
   have cP := (aZ.djn a_.lt)
   have cQ := (bc.dj (Dj.symm cP) (cm.ltF.le ar.n))
   have eT := (bz.frS aC cQ)
   refine ⟨ZbS (y := aL_ 3 (pt_ aV 0) bH) (by kernel_rfl) (eT.l_) (ZbS (y := aL_ 123 (pt_ I 0) bH) (by kernel_rfl) (eS.l_) (ZN)), ?_⟩
   have bC := (a2.fr aC (Dj.symm bK))
   refine bC.mx_ 123 ac.1 ac.2 (m_' (elp V 3 ((gt ((gt D e).2.1) O).1).toNat 2) (Zv Tryz.prog 138 (elp V 3 ((gt ((gt D e).2.1) O).1).toNat 0) 2) (Nd.fldq (d := 2) bC ac.1 ac.2 (by kernel_rfl)) ?_)
   have cR := (ca.dj (Dj.symm bK) a2.lt)
   obtain ⟨cG, bS, el, c4, bq, dc⟩ := Nd.close (P := Tryz.prog) (t := 75) true aC.wf bC cf (Dj.symm cR) ac.1 ac.2 (by kernel_rfl) (by kernel_rfl) (by kernel_rfl)
   have bq : Nd Zb 3 cG V (ae.set ((gt ((gt D e).2.1) O).1).toNat ((gt ae ((gt ((gt D e).2.1) O).1)).1, (gt ae ((gt ((gt D e).2.1) O).1)).2.1, cD)) bS [(e.toNat, true), (e.toNat, false)] := bq
   have e3 := dc.grow3 (Inn.trans ir_ (Nat.le_refl _) cB) (Inn.trans (Inn.trans ir_ (Nat.le_refl _) bc) (Nat.le_refl _) ca) aC.n
   refine fk_ el (ZaE (by kernel_rfl) (ZaE (by kernel_rfl) (ZN))) ?_
   refine ZO ?_
   refine dG _ _ (g_' ?_)
   obtain ⟨c8, ez⟩ := Zc ey
   refine w_' ((O + 1)) (Zs (by have := c8; omega)) (q_ (i_ (O + 1)) (Za ?_))
   have bu := (t_ (t_ ai.n aB.n) ar.n)
   obtain rfl := oi_ ez
   exact d4 ej _ _ lt_ ⟨(ae.set ((gt ((gt D e).2.1) O).1).toNat ((gt ae ((gt ((gt D e).2.1) O).1)).1, (gt ae ((gt ((gt D e).2.1) O).1)).2.1, cD)), (O + 1), bS, b9, ha_, (fs_ Y.wf (fs_ Y.wf (fs_ Y.wf ((fs_ Y.wf (fr_ Y.wf) ai ir_).extR aB) ar (aZ.fresh ai.n)) aC (Inn.trans (Inn.trans ir_ (Nat.le_refl _) aT) bu bc)) c4 (Inn.trans (Inn.trans ir_ (Nat.le_refl _) aT) bu cB)), bq, (Inn.trans (Inn.trans ir_ (Nat.le_refl _) aT) bu e3)⟩
  have eA := Zj aN aR
  refine Zaf (Zq (Zq (Zau ?_)))
  obtain rfl := oi_ eA
  obtain rfl := ZL b9
  exact d3 _ _ ⟨aL, ha_, (fs_ Y.wf (fr_ Y.wf) ai ir_), a_, (Inn.trans ir_ (Nat.le_refl _) aT)⟩
 obtain ⟨al, b6, aa, d8, aj⟩ := hM
 obtain ⟨β, rfl⟩ := Zo b6
 clear b6
 refine d1 _ _ (sq_ fun dN => sq_ fun dO => g_' (q_ (pt_ ak 2) ?_))
 have bL := (am.djn bs.lt)
 have cw := (cu.frS aa (Dj.symm bL))
 refine lr_ 75 2 (.slice ay aI aA) cw ?_
 have bD := ((e0.fr Y (am.djn aP.lt)).fr aa bj)
 refine bD.sq.ln_ 75 (q_ (i_ 0) (Za (dO _ _ ?_)))
 obtain ⟨ck, dB, eB⟩ := bs_ eQ
 refine ZP (fun α be => ∃ (aX : Fp), Has α [(0, pt_ I 0), (1, i_ e), (5, pt_ ak 0)] /\ FrS al aq be /\ Nd Zb 3 be V ck aX [(e.toNat, true), (e.toNat, false)] /\ Inn al aq aX) (fun _ dP => ?_) (fun α be hM => ?_)
 ·refine Zr ?_
  obtain ⟨ch, dp⟩ := ZC.1 dB
  refine Z9 (fun n α bf => ∃ (o2 : List (Bool × List (Int × Int × Int) × List (Int × Int × Int))), ∃ (U : Int), ∃ (aJ : Fp), ZT (fun zz_ => ZW D e zz_.1 zz_.2) n (o2, U) = some ck /\ Has α [(0, pt_ I 0), (1, i_ e), (5, pt_ ak 0), (53, .slice ay aI aA), (54, i_ (((gt D e).2.2).length : Int)), (55, i_ U)] /\ FrS al aq bf /\ Nd Zb 3 bf V o2 aJ [(e.toNat, true), (e.toNat, false)] /\ Inn al aq aJ) ch ⟨bx, 0, al, dp, ha_, (fr_ aa.wf), d8, ir_⟩ ?_
  rintro ch α bf ⟨o2, U, aJ, de, b5, ah, a8, aS⟩ fc dQ
  obtain ⟨ec, e5, rfl, aQ, b8⟩ := ZJ de
  obtain ⟨β, rfl⟩ := Zo b5
  clear b5
  replace aQ : ZW D e o2 U = some e5 := aQ
  unfold ZW at aQ
  refine sq_ fun dR => g_' (q_ (.bool (decide (U < (((gt D e).2.2).length : Int)))) (Za (dR _ _ (sq_ fun dS => ?_))))
  refine wc_ (U < (((gt D e).2.2).length : Int)) (fun aO => ?_) fun aO => ?_
  ·have eC := Zd aO aQ
   refine Zi (dS _ _ (sq_ fun dT => Zr (sq_ fun dU => g_' ?_)))
   obtain ⟨bW, eD⟩ := Zc eC
   have ci := (t_ ab.n Y.n)
   have cS := (aj.dj bj (aP.lt.le ci))
   have cx := (bD.fr ah cS)
   refine cx.sq.ix_ 75 bW aO (le_ 80 0 (.agg #[i_ ((gt ((gt D e).2.2) U).1), .int .u64 ((gt ((gt D e).2.2) U).2.1), i_ ((gt ((gt D e).2.2) U).2.2)]) cx.sq bW aO ?_)
   refine rk_ ah.wf [i_ 0, .int .u64 0, i_ 0] fun aW e8 aE a1 co => ?_
   obtain ⟨ap, em, au, bA⟩ := ra_ 80 0 aE.wf co [i_ ((gt ((gt D e).2.2) U).1), .int .u64 ((gt ((gt D e).2.2) U).2.1), i_ ((gt ((gt D e).2.2) U).2.2)] [i_ ((gt ((gt D e).2.2) U).1), .int .u64 ((gt ((gt D e).2.2) U).2.1), i_ ((gt ((gt D e).2.2) U).2.2)]
   refine ek_ em (Za (dU _ _ ?_))
   refine Z0 [0, 1, 2, 3, 4, 5, 6, 7, 8, 9, 10, 11, 12, 13, 14, 15, 16, 17, 18, 19] (by kernel_rfl) ?_
   refine e_' (pt_ I 0) (e_' (pt_ I 0) (e_' (pt_ I 0) ?_))
   have bM := (aw.dj bk Z.ltF)
   have bN := (aj.dj bM (Z.ltF.le ci))
   have ed := (t_ (t_ (t_ ab.n Y.n) aa.n) ah.n)
   have cT := (a1.djn (Z.ltF.le ed))
   have bE := ((((((Z.ext ab).frS Y (am.djn Z.ltF)).frS aa bM).frS ah bN).ext aE).frS au cT)
   refine ZcU (V) (x := aL_ 123 (pt_ I 0) ap) (by kernel_rfl) (bE.l_) ?_
   refine e_' (pt_ aW 0) ?_
   refine ZcU (i_ ((gt ((gt D e).2.2) U).1)) (x := aL_ 3 (pt_ aW 0) ap) (by kernel_rfl) (bA.l_) ?_
   refine e_' (pt_ I 0) (e_' (pt_ I 0) (e_' (pt_ I 0) (mr_ 123 0 (V) bE (e_' (pt_ aW 0) (mr_ 3 0 (i_ ((gt ((gt D e).2.2) U).1)) bA ?_)))))
   obtain ⟨ad, eE⟩ := Zc eD
   have bb := ((a8.ext aE).fr au (a1.djn a8.lt))
   refine bb.mx_ 123 ad.1 ad.2 (m_' (elp V 3 ((gt ((gt D e).2.2) U).1).toNat 1) (Zv Tryz.prog 138 (elp V 3 ((gt ((gt D e).2.2) U).1).toNat 0) 1) (Nd.fldq (d := 1) bb ad.1 ad.2 (by kernel_rfl)) ?_)
   obtain ⟨bX, eG⟩ := Zc eE
   obtain ⟨eU, fE, dk, dh⟩ := Nd.at bb ad.1 ad.2
   have ce : KdS Zb 3 ap eU ((gt o2 ((gt ((gt D e).2.2) U).1)).2.1) aJ V 3 ((gt ((gt D e).2.2) U).1).toNat 1 := dh false (by have := bX; have := ad.1; have := af.1; simp; omega)
   obtain ⟨cJ, ee, cL, rfl⟩ := ce.sq.form
   refine m_' (.slice cJ ee cL) (aL_ 75 (elp V 3 ((gt ((gt D e).2.2) U).1).toNat 1) ap) (dk _ _ _ _ (by kernel_rfl)) (e_' (i_ e) ?_)
   obtain ⟨c7, fv, a6, dt, bO, dw, dx⟩ := Nd.borrow false bb ad.1 ad.2 (by have := bX; have := ad.1; have := af.1; simp; omega) ce rfl
   have cC := Inn.sub' (H := ap) dw
   have bd := Inn.sub' (H := ap) dx
   have a6 : Nd Zb 3 ap V o2 c7 [(((gt ((gt D e).2.2) U).1).toNat, false), (e.toNat, true), (e.toNat, false)] := a6
   obtain ⟨cF, dF, eI⟩ := bs_ eG
   refine dk_ (ZdQ au.wf dt dF) ?_
   rintro fC bI ⟨_, fw, rfl, aF, cg, cc⟩
   obtain ⟨fg, fA, fj, rfl⟩ := cg.form
   have ef := (t_ (t_ ab.n Y.n) aa.n)
   have cU := (aS.dj bN (Z.ltF.le ef))
   have eh := (t_ (t_ (t_ (t_ (t_ ab.n Y.n) aa.n) ah.n) aE.n) au.n)
   have cV := (bd.dj cU (Z.ltF.le eh))
   have eV := (bE.frS aF cV)
   have cW := (a1.djn a8.lt)
   have cX := (bd.dj (Dj.symm cW) (co.ltF.le au.n))
   have eW := (bA.frS aF cX)
   refine ⟨ZbS (y := aL_ 3 (pt_ aW 0) bI) (by kernel_rfl) (eW.l_) (ZbS (y := aL_ 123 (pt_ I 0) bI) (by kernel_rfl) (eV.l_) (ZN)), ?_⟩
   have bF := (a6.fr aF (Dj.symm bO))
   refine bF.mx_ 123 ad.1 ad.2 (m_' (elp V 3 ((gt ((gt D e).2.2) U).1).toNat 1) (Zv Tryz.prog 138 (elp V 3 ((gt ((gt D e).2.2) U).1).toNat 0) 1) (Nd.fldq (d := 1) bF ad.1 ad.2 (by kernel_rfl)) ?_)
   have cY := (cc.dj (Dj.symm bO) a6.lt)
   obtain ⟨cH, bT, en, c5, br, dd⟩ := Nd.close (P := Tryz.prog) (t := 75) false aF.wf bF cg (Dj.symm cY) ad.1 ad.2 (by kernel_rfl) (by kernel_rfl) (by kernel_rfl)
   have br : Nd Zb 3 cH V (o2.set ((gt ((gt D e).2.2) U).1).toNat ((gt o2 ((gt ((gt D e).2.2) U).1)).1, cF, (gt o2 ((gt ((gt D e).2.2) U).1)).2.2)) bT [(e.toNat, true), (e.toNat, false)] := br
   have e4 := dd.grow3 (Inn.trans ir_ (Nat.le_refl _) cC) (Inn.trans (Inn.trans ir_ (Nat.le_refl _) bd) (Nat.le_refl _) cc) aF.n
   refine fk_ en (ZaE (by kernel_rfl) (ZaE (by kernel_rfl) (ZN))) ?_
   refine ZO ?_
   refine dT _ _ (g_' ?_)
   obtain ⟨c9, eJ⟩ := Zc eI
   refine w_' ((U + 1)) (Zs (by have := c9; omega)) (q_ (i_ (U + 1)) (Za ?_))
   have bv := (t_ (t_ ah.n aE.n) au.n)
   obtain rfl := oi_ eJ
   exact dQ ec _ _ lt_ ⟨(o2.set ((gt ((gt D e).2.2) U).1).toNat ((gt o2 ((gt ((gt D e).2.2) U).1)).1, cF, (gt o2 ((gt ((gt D e).2.2) U).1)).2.2)), (U + 1), bT, b8, ha_, (fs_ aa.wf (fs_ aa.wf (fs_ aa.wf ((fs_ aa.wf (fr_ aa.wf) ah ir_).extR aE) au (a1.fresh ah.n)) aF (Inn.trans (Inn.trans ir_ (Nat.le_refl _) aS) bv bd)) c5 (Inn.trans (Inn.trans ir_ (Nat.le_refl _) aS) bv cC)), br, (Inn.trans (Inn.trans ir_ (Nat.le_refl _) aS) bv e4)⟩
  have eL := Zj aO aQ
  refine Zaf (Zq (Zq (Zau ?_)))
  obtain rfl := oi_ eL
  obtain rfl := ZL b8
  exact dP _ _ ⟨aJ, ha_, (fs_ aa.wf (fr_ aa.wf) ah ir_), a8, (Inn.trans ir_ (Nat.le_refl _) aS)⟩
 obtain ⟨aX, bZ, aD, d7, bt⟩ := hM
 obtain ⟨β, rfl⟩ := Zo bZ
 clear bZ
 refine dN _ _ (sq_ fun dX => ?_)
 refine Z0 [0, 1, 2, 3, 4, 5, 6, 7, 8, 9, 10, 11, 12, 13, 14] (by kernel_rfl) ?_
 refine e_' (pt_ I 0) (e_' (pt_ I 0) (e_' (pt_ I 2) ?_))
 have bP := (aw.dj bk Z.ltF)
 have aG := (t_ ab.n Y.n)
 have bQ := (aj.dj bP (Z.ltF.le aG))
 have cy := ((((Z.ext ab).frS Y (am.djn Z.ltF)).frS aa bP).frS aD bQ)
 refine mr_ 3 2 (i_ an) cy (e_' (pt_ ak 1) ?_)
 have cZ := (aj.dj (Dj.symm bL) (cr.ltF.le Y.n))
 have cz := (cw.frS aD cZ)
 refine mr_ 75 1 (.slice ax aH az) cz ?_
 have c0 := (aj.dj bi (a7.lt.le aG))
 have eX := ((bG.fr aa bi).fr aD c0)
 refine eX.sq.mn_ 75 (e_' (pt_ ak 2) (mr_ 75 2 (.slice ay aI aA) cz ?_))
 have c3 := (aj.dj bj (aP.lt.le aG))
 have eY := (bD.fr aD c3)
 refine eY.sq.mn_ 75 ?_
 obtain ⟨c_, eM⟩ := Zc eB
 refine d_w (((((gt D e).2.1).length : Int) + (((gt D e).2.2).length : Int))) (k := .i64) (x := ((((gt D e).2.1).length : Int) + (((gt D e).2.2).length : Int))) (by kernel_rfl) (Zs c_) ?_
 obtain ⟨da, eN⟩ := Zc eM
 refine d_w ((an - ((((gt D e).2.1).length : Int) + (((gt D e).2.2).length : Int)))) (k := .i64) (x := (an - ((((gt D e).2.1).length : Int) + (((gt D e).2.2).length : Int)))) (by kernel_rfl) (Zs da) ?_
 refine e_' (pt_ I 0) (e_' (pt_ I 2) ?_)
 obtain ⟨e9, eo, bl, cp⟩ := rb_ 3 2 aD.wf cy (i_ (an - ((((gt D e).2.1).length : Int) + (((gt D e).2.2).length : Int)))) [V, i_ av, i_ (an - ((((gt D e).2.1).length : Int) + (((gt D e).2.2).length : Int)))]
 refine fk_ eo (ZN) ?_
 refine ZO ?_
 refine dX _ _ (sq_ fun dY => g_' (q_ (pt_ I 0) (q_ (pt_ I 0) (q_ (pt_ I 1) (lr_ 3 1 (i_ av) cp ?_)))))
 obtain ⟨db, eO⟩ := Zc eN
 refine w_' ((av - 1)) (Zs db) (q_ (pt_ I 0) (q_ (pt_ I 1) ?_))
 obtain ⟨e_, ep, bm, cq⟩ := rb_ 3 1 bl.wf cp (i_ (av - 1)) [V, i_ (av - 1), i_ (an - ((((gt D e).2.1).length : Int) + (((gt D e).2.2).length : Int)))]
 refine ek_ ep (Za (dY _ _ (sq_ fun dZ => g_' (q_ (pt_ I 0) (q_ (pt_ I 0) (q_ (pt_ I 0) (lr_ 123 0 (V) cq (q_ (i_ e) (q_ (.agg #[.bool true, .slice none 0 0, .slice none 0 0]) ?_)))))))))
 obtain ⟨bY, eP⟩ := Zc eO
 have bw := (t_ (t_ ab.n Y.n) aa.n)
 have bh := (bt.dj bQ (Z.ltF.le bw))
 have cA := ((d7.fr bl (Dj.symm bh)).fr bm (Dj.symm bh))
 refine cA.ix_ 123 af.1 bY ?_
 obtain ⟨fa, eq, bR, dn⟩ := Nd.clearAt (P := Tryz.prog) (t := 138) (v := .agg #[.bool true, .slice none 0 0, .slice none 0 0]) (b0 := true) (hol' := []) bm.wf cA (by decide) af.1 bY (by kernel_rfl) (by kernel_rfl) (by simp)
 refine ek_ eq (Za (dZ _ _ (sq_ fun d0 => g_' (q_ (.nilIface) (Za (d0 _ _ ?_))))))
 refine Zf ?_
 refine br_ [.nilIface] ?_
 have eZ := (cq.frS bR bh)
 obtain rfl := oi_ eP
 exact ⟨(.nilIface), [], aX, rfl, (fs_ ag (fs_ ag (fs_ ag (fs_ ag (fs_ ag (fs_ ag ((fr_ ag).extR ab) Y (am.fresh (Nat.le_refl _))) aa (Inn.trans (Inn.right ir_) (Nat.le_refl _) aw)) aD (Inn.trans (Inn.trans (Inn.right ir_) (Nat.le_refl _) aw) aG aj)) bl Inn.left) bm Inn.left) bR (Inn.trans (Inn.trans (Inn.trans (Inn.right ir_) (Nat.le_refl _) aw) aG aj) bw bt)), Ev.nil, dn, eZ, in_, (Inn.trans (Inn.trans (Inn.trans ir_ (Nat.le_refl _) aw) aG aj) bw bt), dn_⟩
theorem Zez {H : AH} {O : Value} {ab : Fp} {l : List (Int × Int × Int)} {D : Int} {V : Int} {U : Int} {r : List (Int × Int × Int)}
    (Y : WF H) (ak : Ow Zb 3 H O l ab) (an : ZaO l D V U = some r) :
    ACalls Tryz.prog 62 #[O, .agg #[i_ D, .int .u64 V, i_ U]] H fun v H' => ∃ (ap : Value) (aj : Fp), v = ap /\ FrS ab H H' /\ Ow Zb 3 H' ap r aj /\ Inn ab H aj := by
 refine ab_ Tryz.func62 ?_
 unfold ZaO at an
 refine sq_ fun aL => g_' ?_
 refine rl_ Y [i_ D, .int .u64 V, i_ U] fun au a2 Z a7 ah => ?_
 refine q_ (.slice none 0 0) (Za (aL _ _ (sq_ fun aF => g_' (q_ (O) (q_ (pt_ au 0) (lr_ 3 0 (i_ D) ah ?_))))))
 have ai := (ak.ext Z)
 obtain ⟨e, aE, ao⟩ := bs_ an
 refine ck_ (Zdt Z.wf ai.sq aE) ?_
 rintro _ aX ⟨rfl, I⟩
 refine q_ (.tuple #[i_ e.1, .bool e.2]) (q_ (i_ e.1) (q_ (.bool e.2) (q_ (i_ e.1) (q_ (.bool e.2) (Za (aF _ _ (sq_ fun aG => sq_ fun aH => g_' (q_ (.bool e.2) (Za (aH _ _ ?_))))))))))
 refine wb_ (e.2) (fun af => ?_) fun af => ?_
 ·have aQ := Zd af ao
  refine sq_ fun aI => g_' (q_ (O) (q_ (i_ e.1) ?_))
  have aU := (ah.frS I dn_)
  refine lr_ 80 0 (.agg #[i_ D, .int .u64 V, i_ U]) aU ?_
  obtain ⟨ac, aR⟩ := Zc aQ
  have aq := (ai.fr I dn_)
  refine aq.sq.ix_ 75 ac.1 ac.2 ?_
  obtain ⟨aY, aP, ax, aD⟩ := Ow.store (P := Tryz.prog) (t := 80) (off := 0) I.wf aq ac.1 ac.2 (.agg #[i_ D, .int .u64 V, i_ U]) [i_ D, .int .u64 V, i_ U] (by kernel_rfl) (by kernel_rfl) rfl (D, V, U) (Nat.le_of_ble_eq_true rfl) (by kernel_rfl)
  refine ek_ aP (Za (aI _ _ (sq_ fun aJ => g_' (q_ (O) (q_ (O) (Za (aJ _ _ ?_)))))))
  refine Zf (Zg ?_)
  refine br_ [O] ?_
  obtain rfl := oi_ aR
  exact ⟨(O), ab, rfl, (fs_ Y (fs_ Y ((fr_ Y).extR Z) I in_) ax ir_), aD, ir_⟩
 have aS := ZQ af ao
 refine Zi (aG _ _ (sq_ fun aK => g_' (q_ (O) (q_ (i_ e.1) ?_))))
 have aV := (ah.frS I dn_)
 refine lr_ 80 0 (.agg #[i_ D, .int .u64 V, i_ U]) aV ?_
 refine Zcz (enc := Zb) (sz := 3) I.wf [(D, V, U)] 1 (by decide) (fun _ _ => rfl) (fun _ _ => rfl) rfl (by kernel_rfl) fun a8 a6 aZ aa aB al => ?_
 obtain ⟨ar, aM, av, rfl⟩ := al.form
 have aW := ((ai.fr I dn_).ext aa)
 obtain ⟨aA, aT⟩ := Zc aS
 have aN := (t_ Z.n I.n)
 have aw := (aB.djn (ak.lt.le aN))
 refine ZeX 86 #[O, i_ e.1, .slice ar aM av] (by kernel_rfl) (ZlI aa.wf aW al (Dj.symm aw) aA) ?_
 rintro a_ a1 ⟨az, ay, am, aC⟩
 obtain ⟨ad, ag, ae, rfl⟩ := am.form
 refine q_ (.slice ad ag ae) (Za (aK _ _ ?_))
 refine Zf ?_
 refine br_ [.slice ad ag ae] ?_
 have aO := (t_ (t_ Z.n I.n) aa.n)
 obtain rfl := oi_ aT
 exact ⟨(.slice ad ag ae), az, rfl, (fs_ Y ((fs_ Y ((fr_ Y).extR Z) I in_).extR aa) ay ir_), am, (Inn.trans ir_ aO aC)⟩
theorem ZeI {H : AH} {e : Nat} {D : Value} {ad : Fp} {I : List (Bool × List (Int × Int × Int) × List (Int × Int × Int))} {aq : Int} {al : Int} {u : Int} {w : Int} {U : Int} {via : Int} {r : Bool × Er × List (Bool × List (Int × Int × Int) × List (Int × Int × Int)) × Int}
    (V : WF H) (ab : Nd Zb 3 H D I ad []) (O : Row H e [D, i_ aq, i_ al]) (ar : Dj [e] ad) (bf : ZaR I aq al u w U via = some r) :
    ACalls Tryz.prog 36 #[pt_ e 0, i_ u, i_ w, .int .u64 U, i_ via] H fun v H' => ∃ (v3 : Value) (aC : Fp) (aD : Fp), v = .tuple #[.bool r.1, v3] /\ FrS ([e] ++ ad) H H' /\ Ev 78 116 H' v3 r.2.1 aC /\ Nd Zb 3 H' D r.2.2.1 aD [] /\ Row H' e [D, i_ aq, i_ r.2.2.2] /\ Inn [] H aC /\ Inn ad H aD /\ Dj aC aD := by
 refine ab_ Tryz.func36 ?_
 unfold ZaR at bf
 refine sq_ fun cq => g_' (q_ (.bool false) (q_ (.nilIface) (Za (cq _ _ (sq_ fun cr => Zr (sq_ fun cu => g_' (q_ (pt_ e 0) (q_ (.bool false) (q_ (.bool false) (Za (cu _ _ ?_)))))))))))
 refine wb_ false (fun h => by cases h) fun _ => ?_
 refine sq_ fun cv => ?_
 obtain ⟨bs, cf, bu⟩ := bs_ bf
 refine ZP (fun α aX => Has α [(0, pt_ e 0), (1, i_ u), (2, i_ w), (3, .int .u64 U), (4, i_ via), (18, .bool bs)] /\ H = aX) (fun _ bm => ?_) (fun α aX hM => ?_)
 ·refine g_' (q_ (pt_ e 0) (q_ (i_ u) ?_))
  obtain ⟨dt, ci, bv⟩ := bs_ cf
  refine ck_ (ZH V ab O ci) ?_
  rintro _ _ ⟨rfl, rfl⟩
  by_cases av : dt = true
  ·have cY := Zd av bv
   rw [av]
   refine q_ (.bool false) (q_ (.bool false) (q_ (pt_ e 0) (q_ (i_ w) ?_)))
   obtain ⟨aW, cj, cZ⟩ := bs_ cY
   refine ck_ (ZH V ab O cj) ?_
   rintro _ _ ⟨rfl, rfl⟩
   refine q_ (.bool (!aW)) (q_ (.bool (!aW)) (q_ (.bool (!aW)) (Za ?_)))
   obtain rfl := oi_ cZ
   exact bm _ _ ⟨ha_, rfl⟩
  have c0 := Zj av bv
  rw [nb av]
  refine q_ (.bool true) (q_ (.bool true) (n_' (n_' (n_' (n_' (q_ (.bool true) (q_ (.bool true) (Za ?_))))))))
  obtain rfl := oi_ c0
  exact bm _ _ ⟨ha_, rfl⟩
 obtain ⟨bc, rfl⟩ := hM
 obtain ⟨β, rfl⟩ := Zo bc
 clear bc
 refine cv _ _ ?_
 refine wb_ (bs) (fun aF => ?_) fun aF => ?_
 ·have c3 := Zd aF bu
  refine sq_ fun cy => g_' (q_ (.iface 78 (i_ 7)) (q_ (.bool false) (q_ (.iface 78 (i_ 7)) (Za (cy _ _ ?_)))))
  refine Zf (Z6 (Zg ?_))
  refine br_ [.bool false, .iface 78 (i_ 7)] ?_
  obtain rfl := oi_ c3
  exact ⟨(.iface 78 (i_ 7)), [], ad, rfl, (fr_ V), Ev.no, ab, O, in_, ir_, dn_⟩
 have bw := ZQ aF bu
 refine sq_ fun cz => g_' (q_ (i_ u) (q_ (i_ w) (q_ (.bool (decide (u = w))) (q_ (.bool (decide (u = w))) (Za (cz _ _ ?_))))))
 refine wc_ (u = w) (fun aG => ?_) fun aG => ?_
 ·have c4 := Zd aG bw
  refine sq_ fun cA => g_' (q_ (.iface 78 (i_ 1)) (q_ (.bool false) (q_ (.iface 78 (i_ 1)) (Za (cA _ _ ?_)))))
  refine Zf (Z6 (Zg ?_))
  refine br_ [.bool false, .iface 78 (i_ 1)] ?_
  obtain rfl := oi_ c4
  exact ⟨(.iface 78 (i_ 1)), [], ad, rfl, (fr_ V), Ev.no, ab, O, in_, ir_, dn_⟩
 have bx := Zj aG bw
 refine sq_ fun cB => g_' (q_ (.int .u64 U) (q_ (.bool (decide (U > 140737488355328))) (q_ (.bool (decide (U > 140737488355328))) (Za (cB _ _ ?_)))))
 refine wc_ (U > 140737488355328) (fun aH => ?_) fun aH => ?_
 ·have c5 := Zd aH bx
  refine sq_ fun cC => g_' (q_ (.iface 78 (i_ 8)) (q_ (.bool false) (q_ (.iface 78 (i_ 8)) (Za (cC _ _ ?_)))))
  refine Zf (Z6 (Zg ?_))
  refine br_ [.bool false, .iface 78 (i_ 8)] ?_
  obtain rfl := oi_ c5
  exact ⟨(.iface 78 (i_ 8)), [], ad, rfl, (fr_ V), Ev.no, ab, O, in_, ir_, dn_⟩
 have c6 := Zj aH bx
 refine sq_ fun cD => ?_
 obtain ⟨bt, bh, bz⟩ := bs_ c6
 refine ZP (fun α aY => Has α [(0, pt_ e 0), (1, i_ u), (2, i_ w), (3, .int .u64 U), (4, i_ via), (39, .bool bt)] /\ H = aY) (fun _ az => ?_) (fun α aY hM => ?_)
 ·refine g_' (q_ (i_ via) ?_)
  refine sb_ (via < (-1)) (fun aI => ?_) fun aI => ?_
  ·have c7 := Zd aI bh
   refine q_ (.bool true) (n_' (n_' (n_' (n_' (n_' (n_' (n_' (q_ (.bool true) (q_ (.bool true) (n_' (n_' (n_' (n_' (n_' (n_' (n_' (n_' (n_' (n_' (n_' (n_' (n_' (q_ (.bool true) (q_ (.bool true) (Za ?_)))))))))))))))))))))))))
   obtain rfl := oi_ c7
   exact az _ _ ⟨ha_, rfl⟩
  have bA := Zj aI bh
  refine q_ (.bool false) (q_ (i_ via) (q_ (pt_ e 0) (q_ (pt_ e 0) (q_ (pt_ e 0) (lr_ 123 0 (D) O (ab.ln_ 123 ?_))))))
  refine sb_ (via ≥ (I.length : Int)) (fun aJ => ?_) fun aJ => ?_
  ·have c8 := Zd aJ bA
   refine q_ (.bool true) (q_ (.bool true) (n_' (n_' (n_' (n_' (n_' (n_' (n_' (n_' (n_' (n_' (n_' (n_' (n_' (q_ (.bool true) (q_ (.bool true) (Za ?_)))))))))))))))))
   obtain rfl := oi_ c8
   exact az _ _ ⟨ha_, rfl⟩
  have bB := Zj aJ bA
  refine q_ (.bool false) (q_ (.bool false) (q_ (i_ via) ?_))
  refine sb_ (via ≥ 0) (fun aK => ?_) fun aK => ?_
  ·have c9 := Zd aK bB
   refine q_ (.bool true) (q_ (pt_ e 0) (q_ (pt_ e 0) (q_ (pt_ e 0) (lr_ 123 0 (D) O (q_ (i_ via) ?_)))))
   obtain ⟨ai, c_⟩ := Zc c9
   refine ab.ix_ 123 ai.1 ai.2 (l_' (elp D 3 via.toNat 0) (Zv Tryz.prog 138 (elp D 3 via.toNat 0) 0) (Nd.fldq (d := 0) ab ai.1 ai.2 (by kernel_rfl)) ?_)
   obtain ⟨dK, dL, b8, dD⟩ := Nd.at ab ai.1 ai.2
   refine l_' (.bool ((gt I via).1)) (aL_ 4 (elp D 3 via.toNat 0) H) (b8 _ _ _ _ (by kernel_rfl)) (q_ (.bool (!(gt I via).1)) (q_ (.bool (!(gt I via).1)) (q_ (.bool (!(gt I via).1)) (q_ (.bool (!(gt I via).1)) (Za ?_)))))
   obtain rfl := oi_ c_
   exact az _ _ ⟨ha_, rfl⟩
  have da := Zj aK bB
  refine q_ (.bool false) (n_' (n_' (n_' (n_' (n_' (n_' (n_' (n_' (n_' (q_ (.bool false) (q_ (.bool false) (q_ (.bool false) (Za ?_)))))))))))))
  obtain rfl := oi_ da
  exact az _ _ ⟨ha_, rfl⟩
 obtain ⟨bd, rfl⟩ := hM
 obtain ⟨β, rfl⟩ := Zo bd
 clear bd
 refine cD _ _ ?_
 refine wb_ (bt) (fun aL => ?_) fun aL => ?_
 ·have db := Zd aL bz
  refine sq_ fun cE => g_' (q_ (.iface 78 (i_ 1)) (q_ (.bool false) (q_ (.iface 78 (i_ 1)) (Za (cE _ _ ?_)))))
  refine Zf (Z6 (Zg ?_))
  refine br_ [.bool false, .iface 78 (i_ 1)] ?_
  obtain rfl := oi_ db
  exact ⟨(.iface 78 (i_ 1)), [], ad, rfl, (fr_ V), Ev.no, ab, O, in_, ir_, dn_⟩
 have dc := ZQ aL bz
 refine Zi (cr _ _ (sq_ fun cF => g_' (q_ (pt_ e 0) (q_ (i_ u) (q_ (i_ w) ?_)))))
 obtain ⟨ac, ck, dd⟩ := bs_ dc
 refine ck_ (ZcD V ab O ck) ?_
 rintro _ aZ ⟨rfl, aa⟩
 refine q_ (.tuple #[.int .u64 ac.1, .bool ac.2]) (q_ (.int .u64 ac.1) (q_ (.bool ac.2) (q_ (.int .u64 ac.1) (q_ (.bool ac.2) (Za (cF _ _ (sq_ fun cG => sq_ fun cH => ?_)))))))
 obtain ⟨ak, bi, bC⟩ := bs_ dd
 refine ZP (fun α a1 => Has α [(0, pt_ e 0), (1, i_ u), (2, i_ w), (3, .int .u64 U), (4, i_ via), (13, .bool ak.1), (79, .bool ak.2)] /\ aZ = a1) (fun _ bn => ?_) (fun α a1 hM => ?_)
 ·refine g_' (q_ (.bool ac.2) (q_ (.bool ac.2) ?_))
  by_cases aw : ac.2 = true
  ·have de := Zd aw bi
   rw [aw]
   refine q_ (.int .u64 ac.1) (q_ (.int .u64 U) (q_ (.bool (decide (ac.1 ≤ U))) (q_ (.bool (decide (ac.1 ≤ U))) (Za ?_))))
   obtain rfl := oi_ de
   exact bn _ _ ⟨ha_, rfl⟩
  have df := Zj aw bi
  rw [nb aw]
  refine n_' (n_' (n_' (q_ (.bool false) (Za ?_))))
  obtain rfl := oi_ df
  exact bn _ _ ⟨ha_, rfl⟩
 obtain ⟨be, rfl⟩ := hM
 obtain ⟨β, rfl⟩ := Zo be
 clear be
 refine cH _ _ ?_
 refine wb_ (ak.2) (fun aM => ?_) fun aM => ?_
 ·have dg := Zd aM bC
  refine sq_ fun cm => g_' (q_ (.bool false) (q_ (.nilIface) (Za (cm _ _ ?_))))
  refine Zf (Zg ?_)
  refine br_ [.bool false, .nilIface] ?_
  have dh := (ab.fr aa dn_)
  have di := (O.frS aa dn_)
  obtain rfl := oi_ dg
  exact ⟨(.nilIface), [], ad, rfl, (fs_ V (fr_ V) aa in_), Ev.nil, dh, di, in_, ir_, dn_⟩
 have cO := ZQ aM bC
 refine Zi (cG _ _ (sq_ fun cn => sq_ fun co => g_' (q_ (.bool ak.1) (q_ (.bool (!ak.1)) (Za (co _ _ ?_))))))
 obtain ⟨cK, bg, cP⟩ := bs_ cO
 refine ZP (fun α ae => Has α [(0, pt_ e 0), (1, i_ u), (2, i_ w), (3, .int .u64 U), (4, i_ via)] /\ FrS [e] aZ ae /\ Row ae e [D, i_ aq, i_ cK]) (fun _ bl => ?_) (fun α ae hM => ?_)
 ·refine wb_ ((!ak.1)) (fun aE => ?_) fun aE => ?_
  ·have cQ := Zd aE bg
   refine g_' (q_ (pt_ e 0) (q_ (pt_ e 0) (q_ (pt_ e 2) ?_)))
   have bD := (O.frS aa dn_)
   refine lr_ 3 2 (i_ al) bD ?_
   obtain ⟨bW, cR⟩ := Zc cQ
   refine w_' ((al + 1)) (Zs bW) (q_ (pt_ e 0) (q_ (pt_ e 2) ?_))
   obtain ⟨du, cL, bT, cS⟩ := rb_ 3 2 aa.wf bD (i_ (al + 1)) [D, i_ aq, i_ (al + 1)]
   refine ek_ cL (Za ?_)
   obtain rfl := oi_ cR
   exact bl _ _ ⟨ha_, (fs_ aa.wf (fr_ aa.wf) bT ir_), cS⟩
  have cT := ZQ aE bg
  refine Zi ?_
  have dk := (O.frS aa dn_)
  obtain rfl := oi_ cT
  exact bl _ _ ⟨ha_, (fr_ aa.wf), dk⟩
 obtain ⟨bb, an, aO⟩ := hM
 obtain ⟨β, rfl⟩ := Zo bb
 clear bb
 refine cn _ _ (sq_ fun cp => ?_)
 refine Z0 [0, 1, 2, 3, 4, 5, 6, 7, 8, 9, 10, 11, 12, 13, 14, 15, 16, 17, 18, 19, 20] (by kernel_rfl) ?_
 refine e_' (pt_ e 0) (e_' (pt_ e 0) (e_' (pt_ e 0) ?_))
 refine ZcU (D) (x := aL_ 123 (pt_ e 0) ae) (by kernel_rfl) (aO.l_) ?_
 refine e_' (i_ u) (e_' (pt_ e 0) (e_' (pt_ e 0) (e_' (pt_ e 0) (mr_ 123 0 (D) aO (e_' (i_ u) ?_)))))
 obtain ⟨Y, cU⟩ := Zc cP
 have aA := ((ab.fr aa dn_).fr an ar)
 refine aA.mx_ 123 Y.1 Y.2 (m_' (elp D 3 u.toNat 1) (Zv Tryz.prog 138 (elp D 3 u.toNat 0) 1) (Nd.fldq (d := 1) aA Y.1 Y.2 (by kernel_rfl)) ?_)
 obtain ⟨dm, dI, b6, bZ⟩ := Nd.at aA Y.1 Y.2
 have bo : KdS Zb 3 ae dm ((gt I u).2.1) ad D 3 u.toNat 1 := bZ false (by simp)
 obtain ⟨bJ, cI, bL, rfl⟩ := bo.sq.form
 refine m_' (.slice bJ cI bL) (aL_ 75 (elp D 3 u.toNat 1) ae) (b6 _ _ _ _ (by kernel_rfl)) (e_' (i_ w) (e_' (.int .u64 U) (e_' (i_ via) (e_' (.agg #[i_ w, .int .u64 U, i_ via]) ?_))))
 obtain ⟨bU, dz, ax, b9, a2, ca, cc⟩ := Nd.borrow false aA Y.1 Y.2 (by simp) bo rfl
 have aS := Inn.sub' (H := ae) ca
 have aT := Inn.sub' (H := ae) cc
 have ax : Nd Zb 3 ae D I bU [(u.toNat, false)] := ax
 obtain ⟨am, cg, cV⟩ := bs_ cU
 refine dk_ (Zez an.wf b9 cg) ?_
 rintro dG bG ⟨_, dA, rfl, ah, bq, bj⟩
 obtain ⟨dv, dE, dx, rfl⟩ := bq.form
 have af := (t_ aa.n an.n)
 have bN := (aT.dj (Dj.symm ar) (O.ltF.le af))
 have bE := (aO.frS ah bN)
 refine ⟨ZbS (y := aL_ 123 (pt_ e 0) bG) (by kernel_rfl) (bE.l_) (ZN), ?_⟩
 have aP := (ax.fr ah (Dj.symm a2))
 refine aP.mx_ 123 Y.1 Y.2 (m_' (elp D 3 u.toNat 1) (Zv Tryz.prog 138 (elp D 3 u.toNat 0) 1) (Nd.fldq (d := 1) aP Y.1 Y.2 (by kernel_rfl)) ?_)
 have bO := (bj.dj (Dj.symm a2) ax.lt)
 obtain ⟨ag, a_, cM, au, aj, bX⟩ := Nd.close (P := Tryz.prog) (t := 75) false ah.wf aP bq (Dj.symm bO) Y.1 Y.2 (by kernel_rfl) (by kernel_rfl) (by kernel_rfl)
 have aj : Nd Zb 3 ag D (I.set u.toNat ((gt I u).1, am, (gt I u).2.2)) a_ [] := aj
 have aB := bX.grow3 (Inn.trans ir_ (Nat.le_refl _) aS) (Inn.trans (Inn.trans ir_ (Nat.le_refl _) aT) (Nat.le_refl _) bj) ah.n
 refine fk_ cM (ZaE (by kernel_rfl) (ZN)) ?_
 refine ZO ?_
 refine cp _ _ (sq_ fun cw => ?_)
 refine Z0 [0, 1, 2, 3, 4, 5, 6, 7, 8, 9, 10, 11, 12, 13, 14, 15, 16, 17, 18, 19, 20] (by kernel_rfl) ?_
 refine e_' (pt_ e 0) (e_' (pt_ e 0) (e_' (pt_ e 0) ?_))
 have bP := (aS.dj (Dj.symm ar) (O.ltF.le af))
 have aQ := (bE.frS au bP)
 refine ZcU (D) (x := aL_ 123 (pt_ e 0) ag) (by kernel_rfl) (aQ.l_) ?_
 refine e_' (i_ w) (e_' (pt_ e 0) (e_' (pt_ e 0) (e_' (pt_ e 0) (mr_ 123 0 (D) aQ (e_' (i_ w) ?_)))))
 obtain ⟨Z, cW⟩ := Zc cV
 refine aj.mx_ 123 Z.1 Z.2 (m_' (elp D 3 w.toNat 2) (Zv Tryz.prog 138 (elp D 3 w.toNat 0) 2) (Nd.fldq (d := 2) aj Z.1 Z.2 (by kernel_rfl)) ?_)
 obtain ⟨dJ, dn, b7, b5⟩ := Nd.at aj Z.1 Z.2
 have bp : KdS Zb 3 ag dn ((gt (I.set u.toNat ((gt I u).1, am, (gt I u).2.2)) w).2.2) a_ D 3 w.toNat 2 := b5 true (by simp)
 obtain ⟨bK, cJ, bM, rfl⟩ := bp.sq.form
 refine m_' (.slice bK cJ bM) (aL_ 75 (elp D 3 w.toNat 2) ag) (b7 _ _ _ _ (by kernel_rfl)) (e_' (i_ u) (e_' (.int .u64 U) (e_' (i_ via) (e_' (.agg #[i_ u, .int .u64 U, i_ via]) ?_))))
 obtain ⟨bV, dB, ay, b_, a6, cd, ce⟩ := Nd.borrow true aj Z.1 Z.2 (by simp) bp rfl
 have aU := Inn.sub' (H := ag) cd
 have aV := Inn.sub' (H := ag) ce
 have ay : Nd Zb 3 ag D (I.set u.toNat ((gt I u).1, am, (gt I u).2.2)) bV [(w.toNat, true)] := ay
 obtain ⟨dr, ch, cX⟩ := bs_ cW
 refine dk_ (Zez au.wf b_ ch) ?_
 rintro dH bH ⟨_, dC, rfl, ao, br, bk⟩
 obtain ⟨dw, dF, dy, rfl⟩ := br.form
 have a7 := (aB.dj (Dj.symm ar) (O.ltF.le af))
 have ap := (t_ (t_ (t_ aa.n an.n) ah.n) au.n)
 have bQ := (aV.dj a7 (O.ltF.le ap))
 have bF := (aQ.frS ao bQ)
 refine ⟨ZbS (y := aL_ 123 (pt_ e 0) bH) (by kernel_rfl) (bF.l_) (ZN), ?_⟩
 have aR := (ay.fr ao (Dj.symm a6))
 refine aR.mx_ 123 Z.1 Z.2 (m_' (elp D 3 w.toNat 2) (Zv Tryz.prog 138 (elp D 3 w.toNat 0) 2) (Nd.fldq (d := 2) aR Z.1 Z.2 (by kernel_rfl)) ?_)
 have bR := (bk.dj (Dj.symm a6) ay.lt)
 obtain ⟨bI, ba, cN, a8, aN, bY⟩ := Nd.close (P := Tryz.prog) (t := 75) true ao.wf aR br (Dj.symm bR) Z.1 Z.2 (by kernel_rfl) (by kernel_rfl) (by kernel_rfl)
 have aN : Nd Zb 3 bI D ((I.set u.toNat ((gt I u).1, am, (gt I u).2.2)).set w.toNat ((gt (I.set u.toNat ((gt I u).1, am, (gt I u).2.2)) w).1, (gt (I.set u.toNat ((gt I u).1, am, (gt I u).2.2)) w).2.1, dr)) ba [] := aN
 have dq := bY.grow3 (Inn.trans ir_ (Nat.le_refl _) aU) (Inn.trans (Inn.trans ir_ (Nat.le_refl _) aV) (Nat.le_refl _) bk) ao.n
 refine fk_ cN (ZaE (by kernel_rfl) (ZN)) ?_
 refine ZO ?_
 refine cw _ _ (sq_ fun cx => g_' (q_ (.bool true) (q_ (.nilIface) (Za (cx _ _ ?_)))))
 refine Zf ?_
 refine br_ [.bool true, .nilIface] ?_
 have bS := (aU.dj a7 (O.ltF.le ap))
 have dp := (bF.frS a8 bS)
 obtain rfl := oi_ cX
 exact ⟨(.nilIface), [], ba, rfl, (fs_ V (fs_ V (fs_ V (fs_ V (fs_ V (fs_ V (fr_ V) aa in_) an Inn.left) ah (Inn.trans (Inn.right ir_) af aT)) au (Inn.trans (Inn.right ir_) af aS)) ao (Inn.trans (Inn.trans (Inn.right ir_) af aB) ap aV)) a8 (Inn.trans (Inn.trans (Inn.right ir_) af aB) ap aU)), Ev.nil, aN, dp, in_, (Inn.trans (Inn.trans ir_ af aB) ap dq), dn_⟩
end Go.Vd

/-! (KSx5) -/

set_option maxRecDepth 100000
set_option maxHeartbeats 4000000
set_option linter.unusedVariables false
namespace Go.Vd
open Go.Proofs
attribute [local irreducible] Zh Zk aWp
theorem ZdR {H : AH} {Y : Nat} {ad : Value} {ak : Fp} {bE : List (Bool × List (Int × Int × Int) × List (Int × Int × Int))} {bF : Int} {bG : Int} {ae : Int} {aD : Int} {aE : Int} {az : Int} {ax : Int} {ay : Int} {r : List (Int × Int × Int) × Er × List (Bool × List (Int × Int × Int) × List (Int × Int × Int)) × Int × Int}
    (V : WF H) (aX : Nd Zb 3 H ad bE ak []) (am : Row H Y [ad, i_ bF, i_ bG]) (bb : Dj ak [Y]) (bi : Za6 bE bF bG ae aD aE az ax ay = some r) :
    ACalls Tryz.prog 28 #[pt_ Y 0, i_ ae, .agg #[i_ aD, i_ aE, i_ az, i_ ax, i_ ay]] H fun v H' => ∃ (bL : Value) (aH : Fp) (bO : Value) (aI : Fp) (aG : Fp), v = .tuple #[bL, bO] /\ FrS ([Y] ++ ak) H H' /\ Ow Zw 3 H' bL r.1 aH /\ Ev 78 116 H' bO r.2.1 aI /\ Nd Zb 3 H' ad r.2.2.1 aG [] /\ Row H' Y [ad, i_ r.2.2.2.1, i_ r.2.2.2.2] /\ Inn [] H aH /\ Inn [] H aI /\ Inn ak H aG /\ Dj aH aI /\ Dj aH aG /\ Dj aI aG := by
 refine ab_ Tryz.func28 ?_
 unfold Za6 at bi
 refine sq_ fun cv => g_' ?_
 refine rl_ V [i_ aD, i_ aE, i_ az, i_ ax, i_ ay] fun db c9 D dd cT => ?_
 refine q_ (.slice none 0 0) (q_ (.nilIface) (Za (cv _ _ (sq_ fun cw => g_' (q_ (pt_ Y 0) (q_ (i_ ae) (lr_ 53 0 (.agg #[i_ aD, i_ aE, i_ az, i_ ax, i_ ay]) cT ?_)))))))
 have a7 := (aX.ext D)
 have a8 := (am.ext D)
 obtain ⟨I, cd, bI⟩ := bs_ bi
 refine ck_ (Zaz D.wf a7 a8 cd) ?_
 rintro _ c_ ⟨de, bZ, aQ, b5, rfl, O, ao, bu, aZ, bl, dc⟩
 obtain ⟨a46, aa, Z, rfl⟩ := ao.form
 refine q_ (.tuple #[.slice a46 aa Z, aQ]) (q_ (.slice a46 aa Z) (q_ (aQ) (q_ (.slice a46 aa Z) (q_ (aQ) (Za (cw _ _ (sq_ fun cx => sq_ fun bo => g_' (q_ (aQ) ?_))))))))
 rcases (bu).cases with ⟨aV, rfl⟩ | ⟨aV, aq, au, rfl⟩
 ·have cU := Zd aV bI
  refine q_ (.bool false) (Za (bo _ _ ?_))
  refine wb_ false (fun h => by cases h) fun _ => ?_
  refine Zi (cx _ _ (sq_ fun cy => sq_ fun cz => g_' (q_ (pt_ Y 0) (q_ (i_ ae) ?_))))
  have c3 := (a7.fr O dn_)
  have c4 := (a8.frS O dn_)
  obtain ⟨aj, ce, bJ⟩ := bs_ cU
  refine ck_ (Zd9 O.wf c3 c4 bb ce) ?_
  rintro bN aB ⟨_, b6, ah, rfl, U, bv, bw, bx, ch, ac, bX⟩
  refine q_ (bN) (Za (cz _ _ (sq_ fun bp => g_' (q_ (bN) ?_))))
  rcases (bv).cases with ⟨aW, rfl⟩ | ⟨aW, t76, av, rfl⟩
  ·have cV := Zd aW bJ
   refine q_ (.bool false) (Za (bp _ _ ?_))
   refine wb_ false (fun h => by cases h) fun _ => ?_
   refine Zi (cy _ _ (sq_ fun cA => sq_ fun cB => g_' (q_ (.slice a46 aa Z) ?_)))
   have aS := (aZ.djn (aX.lt.le D.n))
   have aT := (aZ.djn (am.ltF.le D.n))
   have a_ := (ao.fr U (Dj.app (Dj.symm aT) (Dj.symm aS)))
   refine a_.sq.ln_ 54 (q_ (i_ 0) (Za (cB _ _ ?_)))
   obtain ⟨bP, ca, bK⟩ := bs_ cV
   refine ZP (fun α aC => ∃ aO, bP = Sum.inr aO /\ ∃ (aJ : Fp), Has α [(8, .slice a46 aa Z)] /\ FrS ([Y] ++ ah) aB aC /\ Nd Zb 3 aC ad aO.1 aJ [] /\ Row aC Y [ad, i_ aj.2.2.1, i_ aO.2] /\ Inn ah aB aJ) (fun _ cC => ?_) (fun α aC hM => ?_)
   ·refine Zr ?_
    obtain ⟨bD, b9⟩ := ZC.1 ca
    refine Z9 (fun n α aA => ∃ (aM : List (Bool × List (Int × Int × Int) × List (Int × Int × Int))), ∃ (aN : Int), ∃ (e : Int), ∃ (aF : Fp), ZT (fun zz_ => Za0 ae I aj zz_.1 zz_.2.1 zz_.2.2) n (aM, aN, e) = some bP /\ Has α [(0, pt_ Y 0), (1, i_ ae), (8, .slice a46 aa Z), (31, .slice a46 aa Z), (32, i_ (I.1.length : Int)), (33, i_ e)] /\ FrS ([Y] ++ ah) aB aA /\ Nd Zb 3 aA ad aM aF [] /\ Row aA Y [ad, i_ aj.2.2.1, i_ aN] /\ Inn ah aB aF) bD ⟨aj.2.1, aj.2.2.2, 0, ah, b9, ha_, (fr_ U.wf), bw, bx, ir_⟩ ?_
    rintro bD α aA ⟨aM, aN, e, aF, b8, bg, ab, a1, bq, ai⟩ da ci
    obtain ⟨cF, c5, rfl, an, aY⟩ := ZJ b8
    obtain ⟨β, rfl⟩ := Zo bg
    clear bg
    replace an : Za0 ae I aj aM aN e = some c5 := an
    unfold Za0 at an
    refine sq_ fun cj => g_' (q_ (.bool (decide (e < (I.1.length : Int)))) (Za (cj _ _ (sq_ fun ck => ?_))))
    refine wc_ (e < (I.1.length : Int)) (fun al => ?_) fun al => ?_
    ·have cJ := Zd al an
     refine Zi (ck _ _ (sq_ fun cm => Zr (sq_ fun cn => g_' ?_)))
     obtain ⟨bf, cK⟩ := Zc cJ
     have bQ := (ac.dj (Dj.symm aS) ao.lt)
     have bM := (a_.fr ab (Dj.app (Dj.symm aT) bQ))
     refine bM.sq.ix_ 54 bf al (le_ 131 0 (.agg #[i_ ((gt I.1 e).1), i_ ((gt I.1 e).2.1), .int .u64 ((gt I.1 e).2.2)]) bM.sq bf al ?_)
     refine rk_ ab.wf [i_ 0, i_ 0, .int .u64 0] fun aR c6 af aK cL => ?_
     obtain ⟨c7, cI, ag, a6⟩ := ra_ 131 0 af.wf cL [i_ ((gt I.1 e).1), i_ ((gt I.1 e).2.1), .int .u64 ((gt I.1 e).2.2)] [i_ ((gt I.1 e).1), i_ ((gt I.1 e).2.1), .int .u64 ((gt I.1 e).2.2)]
     refine ek_ cI (Za (cn _ _ (sq_ fun co => g_' (q_ (pt_ Y 0) (q_ (pt_ aR 0) (lr_ 3 0 (i_ ((gt I.1 e).1)) a6 (q_ (pt_ aR 1) (lr_ 3 1 (i_ ((gt I.1 e).2.1)) a6 (q_ (pt_ aR 2) (lr_ 27 2 (.int .u64 ((gt I.1 e).2.2)) a6 (q_ (i_ ae) ?_)))))))))))
     have cW := ((a1.ext af).fr ag (aK.djn a1.lt))
     have bz := (t_ (t_ (t_ D.n O.n) U.n) ab.n)
     have bR := (aK.djn (am.ltF.le bz))
     have cX := ((bq.ext af).frS ag bR)
     have aL := (t_ D.n O.n)
     have bS := (ac.dj bb (am.ltF.le aL))
     have a2 := (t_ (t_ D.n O.n) U.n)
     have bT := (ai.dj bS (am.ltF.le a2))
     obtain ⟨aw, cc, bH⟩ := bs_ cK
     refine ck_ (ZeI ag.wf cW cX (Dj.symm bT) cc) ?_
     rintro _ c8 ⟨aP, bY, be, rfl, bc, br, bs, bt, cg, bk, bU⟩
     refine q_ (.tuple #[.bool aw.1, aP]) (q_ (.bool aw.1) (q_ (aP) (q_ (.bool aw.1) (q_ (aP) (Za (co _ _ (sq_ fun bn => g_' (q_ (aP) ?_))))))))
     rcases (br).cases with ⟨aU, rfl⟩ | ⟨aU, ap, ar, rfl⟩
     ·have cM := Zd aU bH
      refine q_ (.bool false) (Za (bn _ _ ?_))
      refine wb_ false (fun h => by cases h) fun _ => ?_
      refine Zi (cm _ _ (g_' ?_))
      obtain ⟨b7, cN⟩ := Zc cM
      refine w_' ((e + 1)) (Zs (by have := b7; omega)) (q_ (i_ (e + 1)) (Za ?_))
      have cG := (t_ (t_ ab.n af.n) ag.n)
      obtain rfl := oi_ cN
      exact ci cF _ _ lt_ ⟨aw.2.2.1, aw.2.2.2, (e + 1), be, aY, ha_, (fs_ U.wf (fs_ U.wf ((fs_ U.wf (fr_ U.wf) ab ir_).extR af) ag (aK.fresh ab.n)) bc (Inn.app Inn.left (Inn.trans (Inn.right ir_) (Nat.le_refl _) ai))), bs, bt, (Inn.trans (Inn.trans ir_ (Nat.le_refl _) ai) cG bk)⟩
     have cO := Zj aU bH
     refine l_' (.bool true) (Z2 Tryz.prog .neq 38 (.tmp 49) (.const .nilIface) (.iface ap ar) .nilIface) (Z4 (by kernel_rfl)) (Za (bn _ _ ?_))
     refine wb_ true (fun _ => ?_) fun h => by cases h
     refine sq_ fun cp => g_' (q_ (.iface ap ar) (q_ (.slice none 0 0) (q_ (.iface ap ar) (Za (cp _ _ ?_)))))
     refine Zf (Z6 (Zg (Zg (Z6 (Zg (Zg ?_))))))
     obtain ⟨df, bj, cf⟩ := map_some cO
     subst cf
     obtain rfl := ZL aY
     have b_ := elim_inl bK
     rw [b_] at bj
     refine br_ [.slice none 0 0, .iface ap ar] ?_
     have bA := (t_ (t_ (t_ (t_ (t_ D.n O.n) U.n) ab.n) af.n) ag.n)
     obtain rfl := oi_ bj
     exact ⟨(.slice none 0 0), [], (.iface ap ar), bY, be, rfl, (fs_ V (fs_ V ((fs_ V (fs_ V (fs_ V ((fr_ V).extR D) O in_) U ir_) ab (Inn.app Inn.left (Inn.trans (Inn.right ir_) aL ac))).extR af) ag (aK.fresh bz)) bc (Inn.app Inn.left (Inn.trans (Inn.trans (Inn.right ir_) aL ac) a2 ai))), (Ow.nil (by decide)), br, bs, bt, in_, (cg.fresh bA), (Inn.trans (Inn.trans (Inn.trans ir_ aL ac) a2 ai) bA bk), dn_, dn_, bU⟩
    have cP := Zj al an
    refine Zaf (Zq (Zq (Zau ?_)))
    obtain rfl := oi_ cP
    obtain rfl := ZL aY
    exact cC _ _ ⟨_, rfl, aF, ha_, (fs_ U.wf (fr_ U.wf) ab ir_), a1, bq, (Inn.trans ir_ (Nat.le_refl _) ai)⟩
   obtain ⟨aO, rfl, aJ, bh, bd, cD, cE, bm⟩ := hM
   have cQ := elim_inr bK
   obtain ⟨β, rfl⟩ := Zo bh
   clear bh
   refine cA _ _ (sq_ fun cq => g_' (q_ (.slice a46 aa Z) (q_ (.slice a46 aa Z) (q_ (.nilIface) (Za (cq _ _ ?_))))))
   refine Zf ?_
   refine br_ [.slice a46 aa Z, .nilIface] ?_
   have bB := (t_ D.n O.n)
   have ba := (ac.dj (Dj.symm aS) ao.lt)
   have cY := (a_.fr bd (Dj.app (Dj.symm aT) ba))
   have cH := (t_ (t_ D.n O.n) U.n)
   have bV := (bm.dj ba (ao.lt.le U.n))
   obtain rfl := oi_ cQ
   exact ⟨(.slice a46 aa Z), bZ, (.nilIface), [], aJ, rfl, (fs_ V (fs_ V (fs_ V ((fr_ V).extR D) O in_) U ir_) bd (Inn.app Inn.left (Inn.trans (Inn.right ir_) bB ac))), cY, Ev.nil, cD, cE, (aZ.fresh D.n), in_, (Inn.trans (Inn.trans ir_ bB ac) cH bm), Dj.nil_r, (Dj.symm bV), dn_⟩
  have cR := Zj aW bJ
  refine l_' (.bool true) (Z2 Tryz.prog .neq 38 (.tmp 28) (.const .nilIface) (.iface t76 av) .nilIface) (Z4 (by kernel_rfl)) (Za (bp _ _ ?_))
  refine wb_ true (fun _ => ?_) fun h => by cases h
  refine sq_ fun cr => g_' (q_ (.iface t76 av) (q_ (.slice none 0 0) (q_ (.iface t76 av) (Za (cr _ _ ?_)))))
  refine Zf (Zg ?_)
  refine br_ [.slice none 0 0, .iface t76 av] ?_
  have bC := (t_ D.n O.n)
  obtain rfl := oi_ cR
  exact ⟨(.slice none 0 0), [], (.iface t76 av), b6, ah, rfl, (fs_ V (fs_ V ((fr_ V).extR D) O in_) U ir_), (Ow.nil (by decide)), bv, bw, bx, in_, (ch.fresh bC), (Inn.trans ir_ bC ac), dn_, dn_, bX⟩
 have cS := Zj aV bI
 refine l_' (.bool true) (Z2 Tryz.prog .neq 38 (.tmp 22) (.const .nilIface) (.iface aq au) .nilIface) (Z4 (by kernel_rfl)) (Za (bo _ _ ?_))
 refine wb_ true (fun _ => ?_) fun h => by cases h
 refine sq_ fun cu => g_' (q_ (.iface aq au) (q_ (.slice none 0 0) (q_ (.iface aq au) (Za (cu _ _ ?_)))))
 refine Zf (Zg ?_)
 refine br_ [.slice none 0 0, .iface aq au] ?_
 have cZ := (a7.fr O dn_)
 have c0 := (a8.frS O dn_)
 have bW := (bl.djn (aX.lt.le D.n))
 obtain rfl := oi_ cS
 exact ⟨(.slice none 0 0), [], (.iface aq au), b5, ak, rfl, (fs_ V ((fr_ V).extR D) O in_), (Ow.nil (by decide)), bu, cZ, c0, in_, (bl.fresh D.n), ir_, dn_, dn_, bW⟩
theorem ZfD {H : AH} {D : Int} {r : Unit}
    (O : WF H) (e : ZcI D = some r) :
    ACalls Tryz.prog 49 #[.pointer none, i_ D] H fun v H' => v = .iface 78 (i_ 19) /\ H = H' := by
 refine ab_ Tryz.func49 ?_
 unfold ZcI at e
 refine sq_ fun k1 => g_' (q_ (.nilIface) (Za (k1 _ _ (sq_ fun k2 => sq_ fun k3 => g_' (q_ (.pointer none) (q_ (.bool true) (Za (k3 _ _ ?_))))))))
 refine wb_ true (fun _ => ?_) fun h => by cases h
 refine sq_ fun I => g_' (q_ (.iface 78 (i_ 19)) (q_ (.iface 78 (i_ 19)) (Za (I _ _ ?_))))
 refine Zf (Zg ?_)
 refine br_ [.iface 78 (i_ 19)] ?_
 obtain rfl := oi_ e
 exact ⟨rfl, rfl⟩
theorem Zcw {H : AH} {V : Int} {O : Int} {U : Int} {I : Int} {e : Int} {D : Int} {r : Unit}
    (aa : WF H) (Z : ZaB V O U I e D = some r) :
    ACalls Tryz.prog 19 #[.pointer none, i_ V, .agg #[i_ O, i_ U, i_ I, i_ e, i_ D]] H fun v H' => v = .tuple #[.slice none 0 0, .iface 78 (i_ 19)] /\ FrS [] H H' := by
 refine ab_ Tryz.func19 ?_
 unfold ZaB at Z
 refine sq_ fun k1 => g_' ?_
 refine rl_ aa [i_ O, i_ U, i_ I, i_ e, i_ D] fun b2 ag Y ah aj => ?_
 refine q_ (.slice none 0 0) (q_ (.nilIface) (Za (k1 _ _ (sq_ fun ai => sq_ fun ae => g_' (q_ (.pointer none) (q_ (i_ V) ?_))))))
 obtain ⟨ak, ab, af⟩ := bs_ Z
 refine ck_ (ZfD Y.wf ab) ?_
 rintro _ _ ⟨rfl, rfl⟩
 refine q_ (.iface 78 (i_ 19)) (Za (ae _ _ (sq_ fun ac => g_' (q_ (.iface 78 (i_ 19)) (l_' (.bool true) (Z2 Tryz.prog .neq 38 (.tmp 18) (.const .nilIface) (.iface 78 (i_ 19)) .nilIface) (Z4 (by kernel_rfl)) (Za (ac _ _ ?_)))))))
 refine wb_ true (fun _ => ?_) fun h => by cases h
 refine sq_ fun ad => g_' (q_ (.iface 78 (i_ 19)) (q_ (.slice none 0 0) (q_ (.iface 78 (i_ 19)) (Za (ad _ _ ?_)))))
 refine Zf (Zg ?_)
 refine br_ [.slice none 0 0, .iface 78 (i_ 19)] ?_
 obtain rfl := oi_ af
 exact ⟨rfl, ((f0_ aa).extR Y)⟩
theorem Zga {H : AH} {V : Int} {O : Int} {U : Int} {I : Int} {e : Int} {D : Int} {r : Unit}
    (Y : WF H) (aa : Zb3 V O U I e D = some r) :
    ACalls Tryz.prog 23 #[.pointer none, i_ V, .agg #[i_ O, i_ U, i_ I, i_ e, i_ D]] H fun v H' => v = .tuple #[i_ 0, .iface 78 (i_ 19)] /\ FrS [] H H' := by
 refine ab_ Tryz.func23 ?_
 unfold Zb3 at aa
 refine sq_ fun k1 => g_' ?_
 refine rl_ Y [i_ O, i_ U, i_ I, i_ e, i_ D] fun b2 aj Z ak ah => ?_
 refine q_ (i_ 0) (q_ (.nilIface) (Za (k1 _ _ (sq_ fun af => g_' (q_ (.pointer none) (q_ (i_ V) (lr_ 53 0 (.agg #[i_ O, i_ U, i_ I, i_ e, i_ D]) ah ?_)))))))
 obtain ⟨am, ac, ag⟩ := bs_ aa
 refine ck_ (Zcw Z.wf ac) ?_
 rintro _ ai ⟨rfl, ab⟩
 refine q_ (.tuple #[.slice none 0 0, .iface 78 (i_ 19)]) (q_ (.slice none 0 0) (q_ (.iface 78 (i_ 19)) (q_ (.slice none 0 0) (q_ (.iface 78 (i_ 19)) (Za (af _ _ (sq_ fun al => sq_ fun ad => g_' (q_ (.iface 78 (i_ 19)) (l_' (.bool true) (Z2 Tryz.prog .neq 38 (.tmp 17) (.const .nilIface) (.iface 78 (i_ 19)) .nilIface) (Z4 (by kernel_rfl)) (Za (ad _ _ ?_)))))))))))
 refine wb_ true (fun _ => ?_) fun h => by cases h
 refine sq_ fun ae => g_' (q_ (.iface 78 (i_ 19)) (q_ (i_ 0) (q_ (.iface 78 (i_ 19)) (Za (ae _ _ ?_)))))
 refine Zf (Zg ?_)
 refine br_ [i_ 0, .iface 78 (i_ 19)] ?_
 obtain rfl := oi_ ag
 exact ⟨rfl, (fs_ Y ((f0_ Y).extR Z) ab in_)⟩
theorem ZeH {H : AH} {V : Int} {O : Int} {U : Int} {I : Int} {e : Int} {D : Int} {r : Unit}
    (Y : WF H) (aa : Zbp V O U I e D = some r) :
    ACalls Tryz.prog 28 #[.pointer none, i_ V, .agg #[i_ O, i_ U, i_ I, i_ e, i_ D]] H fun v H' => v = .tuple #[.slice none 0 0, .iface 78 (i_ 19)] /\ FrS [] H H' := by
 refine ab_ Tryz.func28 ?_
 unfold Zbp at aa
 refine sq_ fun k1 => g_' ?_
 refine rl_ Y [i_ O, i_ U, i_ I, i_ e, i_ D] fun b2 aj Z ak ah => ?_
 refine q_ (.slice none 0 0) (q_ (.nilIface) (Za (k1 _ _ (sq_ fun af => g_' (q_ (.pointer none) (q_ (i_ V) (lr_ 53 0 (.agg #[i_ O, i_ U, i_ I, i_ e, i_ D]) ah ?_)))))))
 obtain ⟨am, ac, ag⟩ := bs_ aa
 refine ck_ (Zcw Z.wf ac) ?_
 rintro _ ai ⟨rfl, ab⟩
 refine q_ (.tuple #[.slice none 0 0, .iface 78 (i_ 19)]) (q_ (.slice none 0 0) (q_ (.iface 78 (i_ 19)) (q_ (.slice none 0 0) (q_ (.iface 78 (i_ 19)) (Za (af _ _ (sq_ fun al => sq_ fun ad => g_' (q_ (.iface 78 (i_ 19)) (l_' (.bool true) (Z2 Tryz.prog .neq 38 (.tmp 22) (.const .nilIface) (.iface 78 (i_ 19)) .nilIface) (Z4 (by kernel_rfl)) (Za (ad _ _ ?_)))))))))))
 refine wb_ true (fun _ => ?_) fun h => by cases h
 refine sq_ fun ae => g_' (q_ (.iface 78 (i_ 19)) (q_ (.slice none 0 0) (q_ (.iface 78 (i_ 19)) (Za (ae _ _ ?_)))))
 refine Zf (Zg ?_)
 refine br_ [.slice none 0 0, .iface 78 (i_ 19)] ?_
 obtain rfl := oi_ ag
 exact ⟨rfl, (fs_ Y ((f0_ Y).extR Z) ab in_)⟩
theorem Zbf {H : AH} {e : Int} {r : Int}
    (D : WF H) (O : Zai e = some r) :
    ACalls Tryz.prog 30 #[i_ e] H fun v H' => v = .agg #[i_ r, .slice none 0 0] /\ FrS [] H H' := by
 refine ab_ Tryz.func30 ?_
 unfold Zai at O
 refine sq_ fun k1 => g_' ?_
 refine rk_ D [i_ 0, .slice none 0 0] fun b2 ad I Y ac => ?_
 refine Za (k1 _ _ (sq_ fun Z => g_' (q_ (i_ e) (q_ (.agg #[i_ e, .slice none 0 0]) ?_))))
 obtain ⟨U, aa, V, ab⟩ := ra_ 44 0 I.wf ac [i_ e, .slice none 0 0] [i_ e, .slice none 0 0]
 refine ek_ aa (Za (Z _ _ ?_))
 refine Zf ?_
 refine Zcy (vs := [.agg #[i_ e, .slice none 0 0]]) (Zda (Eq.trans (b := aL_ 44 (pt_ b2 0) U) (by kernel_rfl) (ab.l_)) (rfl)) ?_
 obtain rfl := oi_ O
 exact ⟨rfl, (fs_ D ((f0_ D).extR I) V (Y.fresh (Nat.le_refl _)))⟩
theorem Zeo {H : AH} {I : Value} {ac : Fp} {D : Int} {e : List (Int × Int)} {r : Bool}
    (Y : WF H) (Z : Sq ZbE 2 H I e ac) (V : ZaG D e = some r) :
    ACalls Tryz.prog 38 #[.agg #[i_ D, I]] H fun v H' => v = .bool r /\ FrS [] H H' := by
 refine ab_ Tryz.func38 ?_
 unfold ZaG at V
 refine sq_ fun k1 => g_' ?_
 refine Zf5 Y [i_ D, I] (Zbd (rfl) (Zbd (Z.one1) (ZdX))) (by kernel_rfl) fun b2 ag O ah ab => ?_
 refine q_ (.bool false) (Za (k1 _ _ (sq_ fun aa => g_' (q_ (pt_ b2 0) (lr_ 3 0 (i_ D) ab ?_)))))
 refine ZjN (D = 0) (by kernel_rfl) (fun U => ?_) (fun U => ?_)
 ·have ad := Zd U V
  refine q_ (.bool false) (q_ (pt_ b2 1) (lr_ 42 1 (I) ab ?_))
  have af := (Z.ext O)
  refine af.ln_ 42 (q_ (.bool (decide ((e.length : Int) > 0))) (q_ (.bool (decide ((e.length : Int) > 0))) (q_ (.bool (decide ((e.length : Int) > 0))) (Za (aa _ _ ?_)))))
  refine Zf ?_
  refine br_ [.bool (decide ((e.length : Int) > 0))] ?_
  obtain rfl := oi_ ad
  exact ⟨rfl, ((f0_ Y).extR O)⟩
 have ae := Zj U V
 refine q_ (.bool true) (n_' (n_' (n_' (n_' (q_ (.bool true) (q_ (.bool true) (Za (aa _ _ ?_))))))))
 refine Zf ?_
 refine br_ [.bool true] ?_
 obtain rfl := oi_ ae
 exact ⟨rfl, ((f0_ Y).extR O)⟩
theorem ZaN {H : AH} {aB : Value} {aO : Fp} {aq : Value} {cd : Fp} {ag : Er} {ac : Int} {O : List (Int × Int)} {r : Bool}
    (e : WF H) (al : Ev 78 116 H aB ag aO) (ba : Sq ZbE 2 H aq O cd) (bh : ZM ag ac O = some r) :
    ACalls Tryz.prog 13 #[aB, .agg #[i_ ac, aq]] H fun v H' => v = .bool r /\ FrS [] H H' := by
 refine ab_ Tryz.func13 ?_
 unfold ZM at bh
 refine sq_ fun k1 => g_' ?_
 refine Zf5 e [i_ ac, aq] (Zbd (rfl) (Zbd (ba.one1) (ZdX))) (by kernel_rfl) fun b2 dX U d6 aI => ?_
 refine q_ (.bool false) (Za (k1 _ _ (sq_ fun c0 => sq_ fun c4 => g_' (lr_ 44 0 (.agg #[i_ ac, aq]) aI ?_))))
 have bQ := (ba.ext U)
 obtain ⟨bU, cq, bD⟩ := bs_ bh
 refine ck_ (Zeo U.wf bQ cq) ?_
 rintro _ a2 ⟨rfl, D⟩
 refine q_ (.bool (!bU)) (Za (c4 _ _ ?_))
 refine wb_ ((!bU)) (fun aQ => ?_) fun aQ => ?_
 ·have bH := Zd aQ bD
  refine sq_ fun bo => g_' (q_ (aB) ?_)
  have dN := ((al.ext U).fr D dn_)
  rcases (dN).cases with ⟨aR, rfl⟩ | ⟨aR, dE, dQ, rfl⟩
  ·have dt := Zd aR bH
   refine q_ (.bool true) (q_ (.bool true) (Za (bo _ _ ?_)))
   refine Zf (Zg ?_)
   refine br_ [.bool true] ?_
   obtain rfl := oi_ dt
   exact ⟨rfl, (fs_ e ((f0_ e).extR U) D in_)⟩
  have dy := Zj aR bH
  refine l_' (.bool false) (Z2 Tryz.prog .eql 38 (.tmp 15) (.const .nilIface) (.iface dE dQ) .nilIface) (ZeY (by kernel_rfl)) (q_ (.bool false) (Za (bo _ _ ?_)))
  refine Zf (Zg ?_)
  refine br_ [.bool false] ?_
  obtain rfl := oi_ dy
  exact ⟨rfl, (fs_ e ((f0_ e).extR U) D in_)⟩
 have bL := ZQ aQ bD
 refine Zi (c0 _ _ (sq_ fun cP => sq_ fun bp => g_' (q_ (aB) ?_)))
 have az := ((al.ext U).fr D dn_)
 rcases (az).cases with ⟨ao, rfl⟩ | ⟨ao, ad, ae, rfl⟩
 ·have dA := Zd ao bL
  refine q_ (.bool true) (Za (bp _ _ ?_))
  refine wb_ true (fun _ => ?_) fun h => by cases h
  refine sq_ fun cQ => g_' (q_ (.bool false) (Za (cQ _ _ ?_)))
  refine Zf (Zg ?_)
  refine br_ [.bool false] ?_
  obtain rfl := oi_ dA
  exact ⟨rfl, (fs_ e ((f0_ e).extR U) D in_)⟩
 have dB := Zj ao bL
 refine l_' (.bool false) (Z2 Tryz.prog .eql 38 (.tmp 17) (.const .nilIface) (.iface ad ae) .nilIface) (ZeY (by kernel_rfl)) (Za (bp _ _ ?_))
 refine wb_ false (fun h => by cases h) fun _ => ?_
 refine Zi (cP _ _ (sq_ fun cR => g_' (q_ (.iface ad ae) (q_ (.iface ad ae) (Za (cR _ _ (sq_ fun cS => sq_ fun cT => g_' (q_ (pt_ b2 1) ?_))))))))
 have aZ := (aI.frS D dn_)
 refine lr_ 42 1 (aq) aZ ?_
 have bS := (bQ.fr D dn_)
 refine bS.ln_ 42 (q_ (i_ 0) (Za (cT _ _ ?_)))
 obtain ⟨bW, cp, aX⟩ := bs_ dB
 refine ZP (fun α aJ => ∃ aH, bW = Sum.inr aH /\ ∃ (ar : Value), Has α [(0, .iface ad ae), (3, pt_ b2 0), (5, ar)] /\ FrS [] a2 aJ /\ Ev 78 116 aJ ar aH aO) (fun _ cU => ?_) (fun α aJ hM => ?_)
 ·refine Zr ?_
  obtain ⟨bz, cj⟩ := ZC.1 cp
  refine Z9 (fun n α aK => ∃ (I : Int), ∃ (Y : Er), ∃ (am : Value), ZT (fun zz_ => ZaM O zz_.1 zz_.2) n (I, Y) = some bW /\ Has α [(0, .iface ad ae), (3, pt_ b2 0), (5, am), (21, aq), (22, i_ (O.length : Int)), (23, i_ I)] /\ FrS [] a2 aK /\ Ev 78 116 aK am Y aO) bz ⟨0, ag, (.iface ad ae), cj, ha_, (fr_ D.wf), az⟩ ?_
  rintro bz α aK ⟨I, Y, am, ch, bg, af, aW⟩ d3 cV
  obtain ⟨db, dS, rfl, ay, aG⟩ := ZJ ch
  obtain ⟨β, rfl⟩ := Zo bg
  clear bg
  replace ay : ZaM O I Y = some dS := ay
  unfold ZaM at ay
  refine sq_ fun cW => g_' (q_ (.bool (decide (I < (O.length : Int)))) (Za (cW _ _ (sq_ fun cX => ?_))))
  refine wc_ (I < (O.length : Int)) (fun av => ?_) fun av => ?_
  ·have dC := Zd av ay
   refine Zi (cX _ _ (sq_ fun cY => Zr (sq_ fun cZ => g_' ?_)))
   obtain ⟨a_, bM⟩ := Zc dC
   have bT := (bS.fr af dn_)
   refine bT.ix_ 42 a_ av (le_ 115 0 (.agg #[i_ ((gt O I).1), i_ ((gt O I).2)]) bT a_ av ?_)
   refine rk_ af.wf [i_ 0, i_ 0] fun d5 dY ai aw bN => ?_
   obtain ⟨dZ, dc, ah, dD⟩ := ra_ 115 0 ai.wf bN [i_ ((gt O I).1), i_ ((gt O I).2)] [i_ ((gt O I).1), i_ ((gt O I).2)]
   refine ek_ dc (Za (cZ _ _ (sq_ fun c3 => g_' ?_)))
   refine rk_ ah.wf [.pointer none] fun aM d0 ak aF bO => ?_
   refine Za (c3 _ _ (sq_ fun c5 => sq_ fun bq => ?_))
   refine Z0 [0, 1, 2, 3, 4, 5, 6, 7, 8, 9, 10, 11, 12, 13, 14, 15] (by kernel_rfl) ?_
   refine e_' (am) (e_' (.iface 118 (pt_ aM 0)) ?_)
   by_cases aE : Er.isAt Y = true
   ·have bP := Zd aE bM
    have bs := (t_ (t_ (t_ (t_ U.n D.n) af.n) ai.n) ah.n)
    have bY := (aF.djn (al.lt.le bs))
    have bt := (t_ (t_ U.n D.n) af.n)
    have bZ := (aw.djn (al.lt.le bt))
    have dF := (((aW.ext ai).fr ah bZ).ext ak)
    refine ZjL 47 #[am, .iface 118 (pt_ aM 0)] (by kernel_rfl) (Ziy ak.wf bO bY dF aE) ?_
    rintro _ d1 ⟨rfl, aN, aj, a1, -, d7, aY, bC, dP⟩
    refine ⟨ZN, ?_⟩
    refine e_' (.bool false) (e_' (.bool false) (mr_ 116 0 (pt_ aj 0) aY (e_' (.bool false) (e_' (.bool false) (e_' (.bool false) (mr_ 116 0 (pt_ aj 0) aY (e_' (pt_ aj 0) (e_' (pt_ aj 0) (mr_ 115 0 (.agg #[i_ (Er.fk Y), i_ (Er.fi Y)]) bC ?_)))))))))
    have b5 := (aF.djn (bN.ltF.le ah.n))
    have dG := ((dD.ext ak).frS aN b5)
    refine mr_ 115 0 (.agg #[i_ ((gt O I).1), i_ ((gt O I).2)]) dG (m_' (.bool (!decide ((Er.fk Y) = ((gt O I).1) /\ (Er.fi Y) = ((gt O I).2)))) (Z2 Tryz.prog .neq 115 (.tmp 39) (.tmp 40) (.agg #[i_ (Er.fk Y), i_ (Er.fi Y)]) (.agg #[i_ ((gt O I).1), i_ ((gt O I).2)])) (ZiY _ _ (Er.fk Y) (Er.fi Y) ((gt O I).1) ((gt O I).2)) (e_' (.bool (!decide ((Er.fk Y) = ((gt O I).1) /\ (Er.fi Y) = ((gt O I).2)))) ?_))
    refine ZO ?_
    refine bq _ _ ?_
    refine Zdx ((Er.fk Y) = ((gt O I).1) /\ (Er.fi Y) = ((gt O I).2)) (by kernel_rfl) rfl (fun aP => ?_) (fun aP => ?_)
    ·have dd := Zj aP bP
     refine sq_ fun cw => g_' (q_ (.bool false) (Za (cw _ _ ?_)))
     refine Zf (Zg (Z6 (Zg (Zg (Z6 (Zg (Zg ?_)))))))
     obtain ⟨ec, bi, cr⟩ := map_some dd
     subst cr
     obtain rfl := ZL aG
     have ck := elim_inl aX
     rw [ck] at bi
     refine br_ [.bool false] ?_
     obtain rfl := oi_ bi
     exact ⟨rfl, (fs_ e ((fs_ e ((fs_ e (fs_ e ((f0_ e).extR U) D in_) af in_).extR ai) ah (aw.fresh bt)).extR ak) aN (aF.fresh bs))⟩
    have de := Zd aP bP
    refine Zi (c5 _ _ (g_' (lr_ 116 0 (pt_ aj 0) aY (q_ (pt_ aj 0) (q_ (pt_ aj 2) (lr_ 38 2 (a1) bC (q_ (a1) (Za (cY _ _ (g_' ?_))))))))))
    obtain ⟨ce, df⟩ := Zc de
    refine w_' ((I + 1)) (Zs (by have := ce; omega)) (q_ (i_ (I + 1)) (Za ?_))
    have c6 := (t_ (t_ af.n ai.n) ah.n)
    obtain rfl := oi_ df
    exact cV db _ _ lt_ ⟨(I + 1), (Er.fe Y), (a1), aG, ha_, (fs_ D.wf ((fs_ D.wf ((fs_ D.wf (fr_ D.wf) af in_).extR ai) ah (aw.fresh af.n)).extR ak) aN (aF.fresh c6)), dP⟩
   have dg := Zj aE bM
   have bu := (t_ (t_ U.n D.n) af.n)
   have b6 := (aw.djn (al.lt.le bu))
   have dH := (((aW.ext ai).fr ah b6).ext ak)
   refine ZjL 47 #[am, .iface 118 (pt_ aM 0)] (by kernel_rfl) (Zil bO dH aE) ?_
   rintro _ _ ⟨rfl, rfl⟩
   refine ⟨ZN, ?_⟩
   refine e_' (.bool true) (e_' (.bool true) (j_' (j_' (e_' (.bool true) (e_' (.bool true) (j_' (j_' (j_' (j_' (j_' (j_' (e_' (.bool true) ?_))))))))))))
   refine ZO ?_
   refine bq _ _ ?_
   refine wb_ true (fun _ => ?_) fun h => by cases h
   refine sq_ fun cx => g_' (q_ (.bool false) (Za (cx _ _ ?_)))
   refine Zf (Zg (Z6 (Zg (Zg (Z6 (Zg (Zg ?_)))))))
   obtain ⟨ed, bj, cu⟩ := map_some dg
   subst cu
   obtain rfl := ZL aG
   have cm := elim_inl aX
   rw [cm] at bj
   refine br_ [.bool false] ?_
   obtain rfl := oi_ bj
   exact ⟨rfl, ((fs_ e ((fs_ e (fs_ e ((f0_ e).extR U) D in_) af in_).extR ai) ah (aw.fresh bu)).extR ak)⟩
  have dh := Zj av ay
  refine Zaf (Zq (Zq (Zau ?_)))
  obtain rfl := oi_ dh
  obtain rfl := ZL aG
  exact cU _ _ ⟨_, rfl, (am), ha_, (fs_ D.wf (fr_ D.wf) af in_), aW⟩
 obtain ⟨aH, rfl, ar, bf, aa, br⟩ := hM
 have bE := elim_inr aX
 obtain ⟨β, rfl⟩ := Zo bf
 clear bf
 refine cS _ _ (sq_ fun cy => g_' ?_)
 refine rk_ aa.wf [.pointer none] fun aL dT Z bb bF => ?_
 refine Za (cy _ _ (sq_ fun cz => sq_ fun bm => g_' (q_ (ar) (q_ (.iface 118 (pt_ aL 0)) ?_))))
 by_cases aC : Er.isAt aH = true
 ·have di := Zd aC bE
  have bv := (t_ (t_ U.n D.n) aa.n)
  have b7 := (bb.djn (al.lt.le bv))
  have dI := (br.ext Z)
  refine ZeX 47 #[ar, .iface 118 (pt_ aL 0)] (by kernel_rfl) (Ziy Z.wf bF b7 dI aC) ?_
  rintro _ dU ⟨rfl, ca, d4, eb, -, d8, d9, d_, ee⟩
  refine Za (bm _ _ ?_)
  refine wb_ true (fun _ => ?_) fun h => by cases h
  refine sq_ fun cA => g_' (q_ (.bool false) (Za (cA _ _ ?_)))
  refine Zf (Zg ?_)
  refine br_ [.bool false] ?_
  obtain rfl := oi_ di
  exact ⟨rfl, (fs_ e ((fs_ e (fs_ e ((f0_ e).extR U) D in_) aa in_).extR Z) ca (bb.fresh bv))⟩
 have dk := Zj aC bE
 have dJ := (br.ext Z)
 refine ZeX 47 #[ar, .iface 118 (pt_ aL 0)] (by kernel_rfl) (Zil bF dJ aC) ?_
 rintro _ _ ⟨rfl, rfl⟩
 refine Za (bm _ _ ?_)
 refine wb_ false (fun h => by cases h) fun _ => ?_
 refine Zi (cz _ _ (sq_ fun cB => g_' ?_))
 refine rk_ Z.wf [i_ 0] fun aA bX ab ap bG => ?_
 refine Za (cB _ _ (sq_ fun cC => sq_ fun cD => ?_))
 obtain ⟨bA, bl, bI⟩ := bs_ dk
 refine ZP (fun α an => Has α [(0, .iface ad ae), (3, pt_ b2 0), (60, .bool bA)] /\ FrS [aA] bX an) (fun _ bn => ?_) (fun α an hM => ?_)
 ·refine g_' (q_ (.iface ad ae) (q_ (.iface 121 (pt_ aA 0)) ?_))
  by_cases aD : (Er.num ag).isSome = true
  ·have dm := Zd aD bl
   have dK := (((az.fr aa dn_).ext Z).ext ab)
   refine ZeX 47 #[.iface ad ae, .iface 121 (pt_ aA 0)] (by kernel_rfl) (Zl5 ab.wf bG dK ao aD) ?_
   rintro _ dV ⟨rfl, a8, dn⟩
   refine q_ (.bool false) (q_ (.bool false) (lr_ 78 0 (i_ ((Er.num ag).getD 0)) dn (q_ (pt_ b2 0) ?_)))
   have c7 := (t_ (t_ D.n aa.n) Z.n)
   have b8 := (ap.djn (aI.ltF.le c7))
   have dL := ((((aZ.frS aa dn_).ext Z).ext ab).frS a8 b8)
   refine lr_ 3 0 (i_ ac) dL (q_ (.bool (!decide (((Er.num ag).getD 0) = ac))) (q_ (.bool (!decide (((Er.num ag).getD 0) = ac))) (Za ?_)))
   obtain rfl := oi_ dm
   exact bn _ _ ⟨ha_, (fs_ ab.wf (fr_ ab.wf) a8 ir_)⟩
  have dp := Zj aD bl
  have dM := (((az.fr aa dn_).ext Z).ext ab)
  refine ZeX 47 #[.iface ad ae, .iface 121 (pt_ aA 0)] (by kernel_rfl) (Zma ab.wf bG dM ao aD) ?_
  rintro _ dW ⟨rfl, cc, ea⟩
  refine q_ (.bool true) (q_ (.bool true) (n_' (n_' (n_' (n_' (q_ (.bool true) (Za ?_)))))))
  obtain rfl := oi_ dp
  exact bn _ _ ⟨ha_, (fs_ ab.wf (fr_ ab.wf) cc ir_)⟩
 obtain ⟨bc, au⟩ := hM
 obtain ⟨β, rfl⟩ := Zo bc
 clear bc
 refine cD _ _ ?_
 refine wb_ (bA) (fun aS => ?_) fun aS => ?_
 ·have dq := Zd aS bI
  refine sq_ fun cE => g_' (q_ (.bool false) (Za (cE _ _ ?_)))
  refine Zf (Zg ?_)
  refine br_ [.bool false] ?_
  have c8 := (t_ (t_ (t_ U.n D.n) aa.n) Z.n)
  obtain rfl := oi_ dq
  exact ⟨rfl, (fs_ e (((fs_ e (fs_ e ((f0_ e).extR U) D in_) aa in_).extR Z).extR ab) au (ap.fresh c8))⟩
 have dr := ZQ aS bI
 refine Zi (cC _ _ (sq_ fun cF => sq_ fun cG => g_' (q_ (i_ 1) (Za (cG _ _ ?_)))))
 obtain ⟨bV, co, bJ⟩ := bs_ dr
 refine ZP (fun α a6 => ∃ bB, bV = Sum.inr bB /\ Has α [] /\ an = a6) (fun _ cH => ?_) (fun α a6 hM => ?_)
 ·refine Zr ?_
  obtain ⟨bw, ci⟩ := ZC.1 co
  refine Z9 (fun n α a7 => ∃ (V : Int), ZT (fun zz_ => ZaU ag ac zz_) n V = some bV /\ Has α [(0, .iface ad ae), (3, pt_ b2 0), (11, i_ V)] /\ an = a7) bw ⟨1, ci, ha_, rfl⟩ ?_
  rintro bw α a7 ⟨V, cg, be, rfl⟩ d2 cI
  obtain ⟨c9, dR, rfl, ax, aV⟩ := ZJ cg
  obtain ⟨β, rfl⟩ := Zo be
  clear be
  replace ax : ZaU ag ac V = some dR := ax
  unfold ZaU at ax
  refine sq_ fun cJ => sq_ fun cK => g_' (q_ (i_ V) (q_ (.bool (decide (V ≤ 20))) (Za (cK _ _ ?_))))
  refine wc_ (V ≤ 20) (fun aT => ?_) fun aT => ?_
  ·have bK := Zd aT ax
   refine Zi (cJ _ _ (sq_ fun cL => Zr (sq_ fun cM => ?_)))
   refine Z0 [0, 1, 2, 4, 5, 6, 7, 3, 8] (by kernel_rfl) ?_
   refine e_' (.iface ad ae) (e_' (i_ V) (e_' (.iface 78 (i_ V)) (e_' (i_ V) (e_' (pt_ b2 0) ?_))))
   have c_ := (t_ (t_ D.n aa.n) Z.n)
   have b9 := (ap.djn (aI.ltF.le c_))
   have bR := ((((aZ.frS aa dn_).ext Z).ext ab).frS au b9)
   refine ZcU (i_ ac) (x := aL_ 3 (pt_ b2 0) an) (by kernel_rfl) (bR.l_) ?_
   refine e_' (.bool (decide (V = ac))) ?_
   have bx := (t_ (t_ (t_ U.n D.n) aa.n) Z.n)
   have b_ := (ap.djn (al.lt.le bx))
   have dO := ((((az.fr aa dn_).ext Z).ext ab).fr au b_)
   refine ZjL 48 #[.iface ad ae, .iface 78 (i_ V)] (by kernel_rfl) (a_isN dO ao) ?_
   rintro _ _ ⟨rfl, rfl⟩
   refine ⟨ZbS (y := aL_ 3 (pt_ b2 0) an) (by kernel_rfl) (bR.l_) (ZN), ?_⟩
   refine e_' (.bool (!decide ((decide (Er.num ag = some V)) = (decide (V = ac))))) ?_
   refine ZO ?_
   refine cM _ _ ?_
   refine Zdx ((decide (Er.num ag = some V)) = (decide (V = ac))) (by kernel_rfl) rfl (fun aU => ?_) (fun aU => ?_)
   ·have du := Zj aU bK
    refine sq_ fun cN => g_' (q_ (.bool false) (Za (cN _ _ ?_)))
    refine Zf (Z6 (Zg (Zg (Z6 (Zg (Zg ?_))))))
    obtain ⟨ef, bk, cv⟩ := map_some du
    subst cv
    obtain rfl := ZL aV
    have cn := elim_inl bJ
    rw [cn] at bk
    refine br_ [.bool false] ?_
    obtain rfl := oi_ bk
    exact ⟨rfl, (fs_ e (((fs_ e (fs_ e ((f0_ e).extR U) D in_) aa in_).extR Z).extR ab) au (ap.fresh bx))⟩
   have dv := Zd aU bK
   refine Zi (cL _ _ (g_' (q_ (i_ V) ?_)))
   obtain ⟨cf, dw⟩ := Zc dv
   refine w_' ((V + 1)) (Zs cf) (q_ (i_ (V + 1)) (Za ?_))
   obtain rfl := oi_ dw
   exact cI c9 _ _ lt_ ⟨(V + 1), aV, ha_, rfl⟩
  have dx := Zj aT ax
  refine Zaf (Zq (Zq (Zau ?_)))
  obtain rfl := oi_ dx
  obtain rfl := ZL aV
  exact cH _ _ ⟨_, rfl, trivial, rfl⟩
 obtain ⟨bB, rfl, bd, rfl⟩ := hM
 have dz := elim_inr bJ
 obtain ⟨β, rfl⟩ := Zo bd
 clear bd
 refine cF _ _ (sq_ fun cO => g_' (q_ (.bool true) (Za (cO _ _ ?_))))
 refine Zf ?_
 refine br_ [.bool true] ?_
 have da := (t_ (t_ (t_ U.n D.n) aa.n) Z.n)
 obtain rfl := oi_ dz
 exact ⟨rfl, (fs_ e (((fs_ e (fs_ e ((f0_ e).extR U) D in_) aa in_).extR Z).extR ab) au (ap.fresh da))⟩
end Go.Vd

/-! (KSx6) -/

set_option maxRecDepth 100000
set_option maxHeartbeats 4000000
set_option linter.unusedVariables false
namespace Go.Vd
open Go.Proofs
attribute [local irreducible] Zh Zk aWp
theorem ZdP {H : AH} {r : Bool}
    (e : WF H) (cL : ZaH = some r) :
    ACalls Tryz.prog 5 #[] H fun v H' => v = .bool r /\ FrS [] H H' := by
 refine ab_ Tryz.func5 ?_
 unfold ZaH at cL
 refine sq_ fun k1 => g_' (q_ (.bool false) (Za (k1 _ _ (sq_ fun k2 => sq_ fun k3 => g_' ?_))))
 refine ZeX 17 #[] (by kernel_rfl) Ze7 ?_
 rintro _ _ ⟨rfl, rfl⟩
 refine q_ (.bool false) (Za (k3 _ _ ?_))
 refine wb_ false (fun h => by cases h) fun _ => ?_
 refine Zi (k2 _ _ (sq_ fun fF => g_' (q_ (.agg #[i_ 5, i_ 5, i_ 0, i_ 0, i_ 0]) ?_)))
 refine rk_ e [i_ 0, i_ 0, i_ 0, i_ 0, i_ 0] fun cy jf Z aE a6 => ?_
 obtain ⟨iO, gE, V, gI⟩ := ra_ 53 0 Z.wf a6 [i_ 5, i_ 5, i_ 0, i_ 0, i_ 0] [i_ 5, i_ 5, i_ 0, i_ 0, i_ 0]
 refine ek_ gE (Za (fF _ _ (sq_ fun fu => g_' ?_)))
 obtain ⟨lp, eG, gL⟩ := bs_ cL
 refine ck_ (Zff V.wf eG) ?_
 rintro _ iS ⟨k4, f20, rfl, U, cP, kw⟩
 obtain ⟨jt, kU, jC, rfl⟩ := cP.form
 obtain ⟨iD, eM, dk⟩ := bs_ gL
 rcases iD with lv | lw
 ·exact (Zjs (Zkm dk)).elim
 have g2 := ZkU dk
 refine ck_ (Zfd U.wf cP.sq eM) ?_
 rintro _ i1 ⟨la, j6, az, rfl, af, a1, aP, aj, ak, cD⟩
 obtain ⟨jw, kX, jF, rfl⟩ := a1.form
 refine q_ (.tuple #[pt_ az 0, .nilIface]) (q_ (pt_ az 0) (q_ (.nilIface) (q_ (pt_ az 0) (q_ (.nilIface) (Za (fu _ _ (sq_ fun fK => g_' (q_ (pt_ az 0) ?_))))))))
 have dP := ((gI.frS U dn_).frS af dn_)
 refine lr_ 53 0 (.agg #[i_ 5, i_ 5, i_ 0, i_ 0, i_ 0]) dP ?_
 obtain ⟨lE, eY, hm⟩ := bs_ g2
 refine ck_ (Zaz af.wf a1 aP eY) ?_
 rintro _ jd ⟨lj, kj, bY, kl, rfl, ac, c3, f4, kN, kO, jQ⟩
 obtain ⟨bd, bG, bk, rfl⟩ := c3.form
 refine q_ (.tuple #[.slice bd bG bk, bY]) (q_ (.slice bd bG bk) (q_ (bY) (q_ (.slice bd bG bk) (q_ (bY) (Za (fK _ _ (sq_ fun fP => g_' (q_ (pt_ az 0) ?_))))))))
 have dR := (dP.frS ac dn_)
 refine lr_ 53 0 (.agg #[i_ 5, i_ 5, i_ 0, i_ 0, i_ 0]) dR ?_
 have dS := (a1.fr ac dn_)
 have dT := (aP.frS ac dn_)
 obtain ⟨iM, fd, hP⟩ := bs_ hm
 refine ck_ (Zaz ac.wf dS dT fd) ?_
 rintro _ jp ⟨lm, km, bZ, kn, rfl, aa, c4, f5, kP, kQ, jR⟩
 obtain ⟨be, bO, bl, rfl⟩ := c4.form
 refine q_ (.tuple #[.slice be bO bl, bZ]) (q_ (.slice be bO bl) (q_ (bZ) (q_ (.slice be bO bl) (q_ (bZ) (Za (fP _ _ (sq_ fun fQ => g_' (q_ (pt_ az 0) ?_))))))))
 have dU := (dR.frS aa dn_)
 refine lr_ 53 0 (.agg #[i_ 5, i_ 5, i_ 0, i_ 0, i_ 0]) dU ?_
 have dV := (dS.fr aa dn_)
 have dW := (dT.frS aa dn_)
 obtain ⟨a7, ff, gG⟩ := bs_ hP
 refine ck_ (ZdN aa.wf dV dW ff) ?_
 rintro _ iN ⟨bP, jS, rfl, Y, fR, kq⟩
 refine q_ (.tuple #[i_ a7.1, bP]) (q_ (i_ a7.1) (q_ (bP) (q_ (i_ a7.1) (q_ (bP) (Za (fQ _ _ (sq_ fun fj => g_' (q_ (pt_ az 0) ?_))))))))
 have dC := (dU.frS Y dn_)
 refine lr_ 53 0 (.agg #[i_ 5, i_ 5, i_ 0, i_ 0, i_ 0]) dC ?_
 have dD := (dV.fr Y dn_)
 have dE := (dW.frS Y dn_)
 obtain ⟨aW, eE, gH⟩ := bs_ gG
 refine ck_ (ZdN Y.wf dD dE eE) ?_
 rintro _ dZ ⟨bQ, jT, rfl, D, fS, kr⟩
 refine q_ (.tuple #[i_ aW.1, bQ]) (q_ (i_ aW.1) (q_ (bQ) (q_ (i_ aW.1) (q_ (bQ) (Za (fj _ _ (sq_ fun fm => sq_ fun fo => ?_)))))))
 obtain ⟨c_, cM, db⟩ := bs_ gH
 refine ZP (fun α cu => Has α [(1, pt_ cy 0), (2, pt_ az 0), (95, .bool c_)] /\ FrS [] dZ cu) (fun _ aL => ?_) (fun α cu hM => ?_)
 ·refine g_' (q_ (.nilIface) (q_ (.bool false) (q_ (.bool false) (q_ (bY) ?_))))
  have hY := (((f4.fr aa dn_).fr Y dn_).fr D dn_)
  rcases (hY).cases with ⟨b8, rfl⟩ | ⟨b8, hQ, ir, rfl⟩
  ·have dc := Zd b8 cM
   refine q_ (.bool false) (q_ (.bool false) (q_ (.bool false) (q_ (bZ) ?_)))
   have hZ := ((f5.fr Y dn_).fr D dn_)
   rcases (hZ).cases with ⟨b9, rfl⟩ | ⟨b9, hR, it, rfl⟩
   ·have dd := Zd b9 dc
    refine q_ (.bool false) (q_ (.bool false) (q_ (.bool false) (q_ (bP) ?_)))
    have h0 := (fR.fr D dn_)
    rcases (h0).cases with ⟨b_, rfl⟩ | ⟨b_, hS, iu, rfl⟩
    ·have de := Zd b_ dd
     refine q_ (.bool false) (q_ (.bool false) (q_ (.bool false) (q_ (bQ) ?_)))
     rcases (fS).cases with ⟨ca, rfl⟩ | ⟨ca, hT, iv, rfl⟩
     ·have gJ := Zd ca de
      refine q_ (.bool false) (q_ (.bool false) (q_ (.bool false) (q_ (.slice bd bG bk) ?_)))
      have h1 := (((c3.fr aa dn_).fr Y dn_).fr D dn_)
      obtain ⟨ln, eF, gK⟩ := bs_ gJ
      refine ck_ (Zb6 D.wf h1.sq eF) ?_
      rintro kZ iP ⟨_, jU, rfl, aR, cO, ks⟩
      obtain ⟨jq, kR, jz, rfl⟩ := cO.form
      refine q_ (.agg #[i_ 0, i_ 3, .int .u64 11]) (q_ (.agg #[i_ 1, i_ 3, .int .u64 3]) ?_)
      refine Zcz (enc := Zw) (sz := 3) aR.wf [(0, 3, 11), (1, 3, 3)] 2 (by decide) (fun _ _ => rfl) (fun _ _ => rfl) rfl (by kernel_rfl) fun k0 jV iQ aM ko cK => ?_
      obtain ⟨jr, kS, jA, rfl⟩ := cK.form
      have h2 := (cO.ext aM)
      obtain ⟨iA, eH, df⟩ := bs_ gK
      refine ck_ (ZbQ aM.wf h2.sq cK.sq eH) ?_
      rintro _ _ ⟨rfl, rfl⟩
      by_cases bn : iA = true
      ·have dg := Zd bn df
       rw [bn]
       refine q_ (.bool false) (q_ (.bool false) (q_ (.bool false) (q_ (.slice be bO bl) ?_)))
       have h3 := ((((c4.fr Y dn_).fr D dn_).fr aR dn_).ext aM)
       refine h3.sq.ln_ 54 ?_
       refine ZjN ((iM.1.length : Int) = 0) (by kernel_rfl) (fun cc => ?_) (fun cc => ?_)
       ·have dh := Zd cc dg
        refine q_ (.bool false) (q_ (.bool false) (q_ (i_ a7.1) ?_))
        refine ZjN (a7.1 = (-2)) (by kernel_rfl) (fun cd => ?_) (fun cd => ?_)
        ·have gM := Zd cd dh
         refine q_ (.bool false) (q_ (.bool false) (q_ (i_ aW.1) (q_ (.bool (!decide (aW.1 = (-1)))) (q_ (.bool (!decide (aW.1 = (-1)))) (Za ?_)))))
         obtain rfl := oi_ gM
         exact aL _ _ ⟨ha_, ((fs_ D.wf (fr_ D.wf) aR in_).extR aM)⟩
        have gN := Zj cd dh
        refine q_ (.bool true) (q_ (.bool true) (n_' (n_' (q_ (.bool true) (Za ?_)))))
        obtain rfl := oi_ gN
        exact aL _ _ ⟨ha_, ((fs_ D.wf (fr_ D.wf) aR in_).extR aM)⟩
       have gO := Zj cc dg
       refine q_ (.bool true) (q_ (.bool true) (n_' (n_' (q_ (.bool true) (q_ (.bool true) (n_' (n_' (q_ (.bool true) (Za ?_)))))))))
       obtain rfl := oi_ gO
       exact aL _ _ ⟨ha_, ((fs_ D.wf (fr_ D.wf) aR in_).extR aM)⟩
      have gP := Zj bn df
      rw [nb bn]
      refine q_ (.bool true) (q_ (.bool true) (q_ (.bool true) (n_' (n_' (n_' (q_ (.bool true) (q_ (.bool true) (n_' (n_' (q_ (.bool true) (q_ (.bool true) (n_' (n_' (q_ (.bool true) (Za ?_)))))))))))))))
      obtain rfl := oi_ gP
      exact aL _ _ ⟨ha_, ((fs_ D.wf (fr_ D.wf) aR in_).extR aM)⟩
     have gQ := Zj ca de
     refine l_' (.bool true) (Z2 Tryz.prog .neq 38 (.tmp 71) (.const .nilIface) (.iface hT iv) .nilIface) (Z4 (by kernel_rfl)) (q_ (.bool true) (q_ (.bool true) (n_' (n_' (n_' (n_' (n_' (n_' (n_' (q_ (.bool true) (q_ (.bool true) (n_' (n_' (n_' (q_ (.bool true) (q_ (.bool true) (n_' (n_' (q_ (.bool true) (q_ (.bool true) (n_' (n_' (q_ (.bool true) (Za ?_))))))))))))))))))))))))
     obtain rfl := oi_ gQ
     exact aL _ _ ⟨ha_, (fr_ D.wf)⟩
    have gR := Zj b_ dd
    refine l_' (.bool true) (Z2 Tryz.prog .neq 38 (.tmp 67) (.const .nilIface) (.iface hS iu) .nilIface) (Z4 (by kernel_rfl)) (q_ (.bool true) (q_ (.bool true) (n_' (n_' (q_ (.bool true) (q_ (.bool true) (n_' (n_' (n_' (n_' (n_' (n_' (n_' (q_ (.bool true) (q_ (.bool true) (n_' (n_' (n_' (q_ (.bool true) (q_ (.bool true) (n_' (n_' (q_ (.bool true) (q_ (.bool true) (n_' (n_' (q_ (.bool true) (Za ?_))))))))))))))))))))))))))))
    obtain rfl := oi_ gR
    exact aL _ _ ⟨ha_, (fr_ D.wf)⟩
   have gS := Zj b9 dc
   refine l_' (.bool true) (Z2 Tryz.prog .neq 38 (.tmp 63) (.const .nilIface) (.iface hR it) .nilIface) (Z4 (by kernel_rfl)) (q_ (.bool true) (q_ (.bool true) (n_' (n_' (q_ (.bool true) (q_ (.bool true) (n_' (n_' (q_ (.bool true) (q_ (.bool true) (n_' (n_' (n_' (n_' (n_' (n_' (n_' (q_ (.bool true) (q_ (.bool true) (n_' (n_' (n_' (q_ (.bool true) (q_ (.bool true) (n_' (n_' (q_ (.bool true) (q_ (.bool true) (n_' (n_' (q_ (.bool true) (Za ?_))))))))))))))))))))))))))))))))
   obtain rfl := oi_ gS
   exact aL _ _ ⟨ha_, (fr_ D.wf)⟩
  have gT := Zj b8 cM
  refine l_' (.bool true) (Z2 Tryz.prog .neq 38 (.tmp 59) (.const .nilIface) (.iface hQ ir) .nilIface) (Z4 (by kernel_rfl)) (q_ (.bool true) (q_ (.bool true) (n_' (n_' (q_ (.bool true) (q_ (.bool true) (n_' (n_' (q_ (.bool true) (q_ (.bool true) (n_' (n_' (q_ (.bool true) (q_ (.bool true) (n_' (n_' (n_' (n_' (n_' (n_' (n_' (q_ (.bool true) (q_ (.bool true) (n_' (n_' (n_' (q_ (.bool true) (q_ (.bool true) (n_' (n_' (q_ (.bool true) (q_ (.bool true) (n_' (n_' (q_ (.bool true) (Za ?_))))))))))))))))))))))))))))))))))))
  obtain rfl := oi_ gT
  exact aL _ _ ⟨ha_, (fr_ D.wf)⟩
 obtain ⟨cI, ab⟩ := hM
 obtain ⟨β, rfl⟩ := Zo cI
 clear cI
 refine fo _ _ ?_
 refine wb_ (c_) (fun ce => ?_) fun ce => ?_
 ·have gU := Zd ce db
  refine sq_ fun fv => g_' (q_ (.bool false) (Za (fv _ _ ?_)))
  refine Zf (Zg ?_)
  refine br_ [.bool false] ?_
  obtain rfl := oi_ gU
  exact ⟨rfl, (fs_ e (fs_ e (fs_ e (fs_ e (fs_ e (fs_ e (fs_ e (fs_ e ((f0_ e).extR Z) V (aE.fresh (Nat.le_refl _))) U in_) af in_) ac in_) aa in_) Y in_) D in_) ab in_)⟩
 have gV := ZQ ce db
 refine Zi (fm _ _ (sq_ fun fw => g_' (q_ (.agg #[i_ 0, i_ 1, i_ 4]) (q_ (.agg #[i_ 1, i_ 2, i_ 1]) (q_ (.agg #[i_ 0, i_ 3, i_ 1]) (q_ (.agg #[i_ 3, i_ 2, i_ 4]) ?_))))))
 refine Zcz (enc := ZA) (sz := 3) ab.wf [(0, 1, 4), (1, 2, 1), (0, 3, 1), (3, 2, 4)] 4 (by decide) (fun _ _ => rfl) (fun _ _ => rfl) rfl (by kernel_rfl) fun k5 jW iR ad kp cn => ?_
 obtain ⟨a8, bx, bf, rfl⟩ := cn.form
 refine q_ (.agg #[i_ 4, .slice a8 bx bf]) ?_
 refine rk_ ad.wf [i_ 0, .slice none 0 0] fun jy iT an ay gW => ?_
 have h4 := (cn.ext an)
 obtain ⟨iU, gF, ao, gX⟩ := ra_ 24 0 an.wf gW [i_ 4, .slice a8 bx bf] [i_ 4, .slice a8 bx bf]
 refine ek_ gF (Za (fw _ _ (sq_ fun fx => g_' (lr_ 24 0 (.agg #[i_ 4, .slice a8 bx bf]) gX ?_))))
 have h5 := (h4.fr ao (ay.djn cn.lt))
 obtain ⟨iB, eI, di⟩ := bs_ gV
 rcases iB with lq | lr
 ·exact (Zjs (Zkm di)).elim
 have gY := ZkU di
 refine ck_ (Zfd ao.wf h5.sq eI) ?_
 rintro _ iV ⟨k6, jX, aQ, rfl, ar, co, cQ, ku, kv, jH⟩
 obtain ⟨js, kT, jB, rfl⟩ := co.form
 refine q_ (.tuple #[pt_ aQ 0, .nilIface]) (q_ (pt_ aQ 0) (q_ (.nilIface) (q_ (pt_ aQ 0) (q_ (.nilIface) (Za (fx _ _ (sq_ fun fy => g_' (q_ (pt_ aQ 0) (q_ (.agg #[i_ 2, i_ 9, i_ 0, i_ 0, i_ 0]) ?_)))))))))
 obtain ⟨iC, eJ, gZ⟩ := bs_ gY
 refine ck_ (Zaz ar.wf co cQ eJ) ?_
 rintro _ iW ⟨k7, jY, bR, jZ, rfl, al, cR, fT, kx, ky, jI⟩
 obtain ⟨a_, bz, bg, rfl⟩ := cR.form
 refine q_ (.tuple #[.slice a_ bz bg, bR]) (q_ (.slice a_ bz bg) (q_ (bR) (q_ (.slice a_ bz bg) (q_ (bR) (Za (fy _ _ (sq_ fun fz => g_' (q_ (pt_ aQ 0) (q_ (.agg #[i_ 1, i_ 9, i_ 0, i_ 0, i_ 0]) ?_)))))))))
 have dF := (co.fr al dn_)
 have dG := (cQ.frS al dn_)
 obtain ⟨ls, eK, g0⟩ := bs_ gZ
 refine ck_ (Zaz al.wf dF dG eK) ?_
 rintro _ iX ⟨k8, j0, bS, j1, rfl, ag, cS, fU, kz, kA, jJ⟩
 obtain ⟨ba, bA, bh, rfl⟩ := cS.form
 refine q_ (.tuple #[.slice ba bA bh, bS]) (q_ (.slice ba bA bh) (q_ (bS) (q_ (.slice ba bA bh) (q_ (bS) (Za (fz _ _ (sq_ fun fA => g_' (q_ (pt_ aQ 0) (q_ (.agg #[i_ 2, i_ 1, i_ 0, i_ 0, i_ 0]) ?_)))))))))
 have h6 := (dF.fr ag dn_)
 have h7 := (dG.frS ag dn_)
 obtain ⟨lu, eL, g1⟩ := bs_ g0
 refine ck_ (Zaz ag.wf h6 h7 eL) ?_
 rintro _ iY ⟨k9, j2, bT, j3, rfl, ah, cT, fV, kB, kC, jK⟩
 obtain ⟨bb, bB, bi, rfl⟩ := cT.form
 refine q_ (.tuple #[.slice bb bB bi, bT]) (q_ (.slice bb bB bi) (q_ (bT) (q_ (.slice bb bB bi) (q_ (bT) (Za (fA _ _ (sq_ fun fB => g_' (q_ (.agg #[i_ 0, i_ 2, .int .u64 5]) ?_))))))))
 refine Zcz (enc := Zw) (sz := 3) ah.wf [(0, 2, 5)] 1 (by decide) (fun _ _ => rfl) (fun _ _ => rfl) rfl (by kernel_rfl) fun k_ j4 d0 O cH bw => ?_
 obtain ⟨aX, a2, aY, rfl⟩ := bw.form
 refine q_ (.slice aX a2 aY) (Za (fB _ _ (sq_ fun fC => sq_ fun fD => ?_)))
 obtain ⟨da, cN, dm⟩ := bs_ g1
 refine ZP (fun α cv => Has α [(1, pt_ cy 0), (2, pt_ az 0), (17, .slice aX a2 aY), (159, .bool da)] /\ FrS [] d0 cv) (fun _ aV => ?_) (fun α cv hM => ?_)
 ·refine g_' (q_ (.nilIface) (q_ (.bool false) (q_ (.bool false) (q_ (bR) ?_))))
  have h8 := (((fT.fr ag dn_).fr ah dn_).ext O)
  rcases (h8).cases with ⟨cf, rfl⟩ | ⟨cf, hU, iw, rfl⟩
  ·have dn := Zd cf cN
   refine q_ (.bool false) (q_ (.bool false) (q_ (.bool false) (q_ (bS) ?_)))
   have h9 := ((fU.fr ah dn_).ext O)
   rcases (h9).cases with ⟨cg, rfl⟩ | ⟨cg, hV, ix, rfl⟩
   ·have dp := Zd cg dn
    refine q_ (.bool false) (q_ (.bool false) (q_ (.bool false) (q_ (bT) ?_)))
    have h_ := (fV.ext O)
    rcases (h_).cases with ⟨ch, rfl⟩ | ⟨ch, hW, iy, rfl⟩
    ·have dq := Zd ch dp
     refine q_ (.bool false) (q_ (.bool false) (q_ (.bool false) (q_ (.slice a_ bz bg) ?_)))
     have ia := (((cR.fr ag dn_).fr ah dn_).ext O)
     refine ia.sq.ln_ 54 ?_
     refine ZjN ((iC.1.length : Int) = 0) (by kernel_rfl) (fun ci => ?_) (fun ci => ?_)
     ·have g3 := Zd ci dq
      refine q_ (.bool false) (q_ (.bool false) (q_ (.slice ba bA bh) ?_))
      have ib := ((cS.fr ah dn_).ext O)
      obtain ⟨lx, eN, g4⟩ := bs_ g3
      refine ck_ (Zb6 O.wf ib.sq eN) ?_
      rintro lb iZ ⟨_, j5, rfl, aS, cU, kD⟩
      obtain ⟨ju, kV, jD, rfl⟩ := cU.form
      refine q_ (.slice aX a2 aY) ?_
      have dH := (bw.fr aS dn_)
      obtain ⟨iE, eO, dr⟩ := bs_ g4
      refine ck_ (ZbQ aS.wf cU.sq dH.sq eO) ?_
      rintro _ _ ⟨rfl, rfl⟩
      by_cases bo : iE = true
      ·have g5 := Zd bo dr
       rw [bo]
       refine q_ (.bool false) (q_ (.bool false) (q_ (.bool false) (q_ (.slice bb bB bi) ?_)))
       have ic := ((cT.ext O).fr aS dn_)
       obtain ⟨ly, eP, g6⟩ := bs_ g5
       refine ck_ (Zb6 aS.wf ic.sq eP) ?_
       rintro lc i0 ⟨_, j7, rfl, b7, cV, kE⟩
       obtain ⟨jv, kW, jE, rfl⟩ := cV.form
       refine q_ (.slice aX a2 aY) ?_
       have id := (dH.fr b7 dn_)
       obtain ⟨dX, eQ, g7⟩ := bs_ g6
       refine ck_ (ZbQ b7.wf cV.sq id.sq eQ) ?_
       rintro _ _ ⟨rfl, rfl⟩
       refine q_ (.bool (!dX)) (q_ (.bool (!dX)) (Za ?_))
       obtain rfl := oi_ g7
       exact aV _ _ ⟨ha_, (fs_ O.wf (fs_ O.wf (fr_ O.wf) aS in_) b7 in_)⟩
      have g8 := Zj bo dr
      rw [nb bo]
      refine q_ (.bool true) (q_ (.bool true) (q_ (.bool true) (n_' (n_' (n_' (n_' (n_' (q_ (.bool true) (Za ?_)))))))))
      obtain rfl := oi_ g8
      exact aV _ _ ⟨ha_, (fs_ O.wf (fr_ O.wf) aS in_)⟩
     have g9 := Zj ci dq
     refine q_ (.bool true) (q_ (.bool true) (n_' (n_' (n_' (n_' (n_' (q_ (.bool true) (q_ (.bool true) (n_' (n_' (n_' (n_' (n_' (q_ (.bool true) (Za ?_)))))))))))))))
     obtain rfl := oi_ g9
     exact aV _ _ ⟨ha_, (fr_ O.wf)⟩
    have g_ := Zj ch dp
    refine l_' (.bool true) (Z2 Tryz.prog .neq 38 (.tmp 138) (.const .nilIface) (.iface hW iy) .nilIface) (Z4 (by kernel_rfl)) (q_ (.bool true) (q_ (.bool true) (n_' (n_' (n_' (q_ (.bool true) (q_ (.bool true) (n_' (n_' (n_' (n_' (n_' (q_ (.bool true) (q_ (.bool true) (n_' (n_' (n_' (n_' (n_' (q_ (.bool true) (Za ?_)))))))))))))))))))))
    obtain rfl := oi_ g_
    exact aV _ _ ⟨ha_, (fr_ O.wf)⟩
   have ha := Zj cg dn
   refine l_' (.bool true) (Z2 Tryz.prog .neq 38 (.tmp 134) (.const .nilIface) (.iface hV ix) .nilIface) (Z4 (by kernel_rfl)) (q_ (.bool true) (q_ (.bool true) (n_' (n_' (q_ (.bool true) (q_ (.bool true) (n_' (n_' (n_' (q_ (.bool true) (q_ (.bool true) (n_' (n_' (n_' (n_' (n_' (q_ (.bool true) (q_ (.bool true) (n_' (n_' (n_' (n_' (n_' (q_ (.bool true) (Za ?_)))))))))))))))))))))))))
   obtain rfl := oi_ ha
   exact aV _ _ ⟨ha_, (fr_ O.wf)⟩
  have hb := Zj cf cN
  refine l_' (.bool true) (Z2 Tryz.prog .neq 38 (.tmp 130) (.const .nilIface) (.iface hU iw) .nilIface) (Z4 (by kernel_rfl)) (q_ (.bool true) (q_ (.bool true) (n_' (n_' (q_ (.bool true) (q_ (.bool true) (n_' (n_' (q_ (.bool true) (q_ (.bool true) (n_' (n_' (n_' (q_ (.bool true) (q_ (.bool true) (n_' (n_' (n_' (n_' (n_' (q_ (.bool true) (q_ (.bool true) (n_' (n_' (n_' (n_' (n_' (q_ (.bool true) (Za ?_)))))))))))))))))))))))))))))
  obtain rfl := oi_ hb
  exact aV _ _ ⟨ha_, (fr_ O.wf)⟩
 obtain ⟨cJ, ae⟩ := hM
 obtain ⟨β, rfl⟩ := Zo cJ
 clear cJ
 refine fD _ _ ?_
 refine wb_ (da) (fun cj => ?_) fun cj => ?_
 ·have hc := Zd cj dm
  refine sq_ fun fE => g_' (q_ (.bool false) (Za (fE _ _ ?_)))
  refine Zf (Zg ?_)
  refine br_ [.bool false] ?_
  have f7 := (t_ (t_ (t_ (t_ (t_ (t_ (t_ (t_ (t_ Z.n V.n) U.n) af.n) ac.n) aa.n) Y.n) D.n) ab.n) ad.n)
  obtain rfl := oi_ hc
  exact ⟨rfl, (fs_ e ((fs_ e (fs_ e (fs_ e (fs_ e (fs_ e (((fs_ e (fs_ e (fs_ e (fs_ e (fs_ e (fs_ e (fs_ e (fs_ e ((f0_ e).extR Z) V (aE.fresh (Nat.le_refl _))) U in_) af in_) ac in_) aa in_) Y in_) D in_) ab in_).extR ad).extR an) ao (ay.fresh f7)) ar in_) al in_) ag in_) ah in_).extR O) ae in_)⟩
 have hd := ZQ cj dm
 refine Zi (fC _ _ (sq_ fun fG => g_' (q_ (pt_ az 0) ?_)))
 have f8 := (t_ (t_ (t_ (t_ (t_ (t_ (t_ (t_ V.n U.n) af.n) ac.n) aa.n) Y.n) D.n) ab.n) ad.n)
 have et := (ay.djn (a6.ltF.le f8))
 have dI := (((((((((((dC.frS D dn_).frS ab dn_).ext ad).ext an).frS ao et).frS ar dn_).frS al dn_).frS ag dn_).frS ah dn_).ext O).frS ae dn_)
 refine lr_ 53 0 (.agg #[i_ 5, i_ 5, i_ 0, i_ 0, i_ 0]) dI ?_
 have c5 := (t_ (t_ (t_ (t_ (t_ ac.n aa.n) Y.n) D.n) ab.n) ad.n)
 have eu := (ay.djn (a1.lt.le c5))
 have ie := (((((((((((dD.fr D dn_).fr ab dn_).ext ad).ext an).fr ao eu).fr ar dn_).fr al dn_).fr ag dn_).fr ah dn_).ext O).fr ae dn_)
 have ew := (ay.djn (aP.ltF.le c5))
 have ig := (((((((((((dE.frS D dn_).frS ab dn_).ext ad).ext an).frS ao ew).frS ar dn_).frS al dn_).frS ag dn_).frS ah dn_).ext O).frS ae dn_)
 obtain ⟨lz, eR, he⟩ := bs_ hd
 refine ck_ (ZdR ae.wf ie ig cD eR) ?_
 rintro _ i2 ⟨lf, j8, bU, j9, j_, rfl, aA, cW, fW, fX, fY, fg, fh, aC, jL, ex, ey⟩
 obtain ⟨bc, bC, bj, rfl⟩ := cW.form
 refine q_ (.tuple #[.slice bc bC bj, bU]) (q_ (.slice bc bC bj) (q_ (bU) (q_ (.slice bc bC bj) (q_ (bU) (Za (fG _ _ (sq_ fun fH => g_' (q_ (pt_ az 0) ?_))))))))
 have c6 := (t_ V.n U.n)
 have cB := (aj.djn (a6.ltF.le c6))
 have cC := (ak.djn (a6.ltF.le c6))
 have dJ := (dI.frS aA (Dj.app cC cB))
 refine lr_ 53 0 (.agg #[i_ 5, i_ 5, i_ 0, i_ 0, i_ 0]) dJ ?_
 have cp := (t_ (t_ (t_ (t_ (t_ (t_ (t_ (t_ (t_ (t_ (t_ (t_ (t_ ac.n aa.n) Y.n) D.n) ab.n) ad.n) an.n) ao.n) ar.n) al.n) ag.n) ah.n) O.n) ae.n)
 have ez := (aC.dj cD (aP.ltF.le cp))
 obtain ⟨lA, eS, hf⟩ := bs_ he
 refine ck_ (ZdR aA.wf fX fY ez eS) ?_
 rintro _ i3 ⟨lg, ka, bV, kb, kc, rfl, ax, fZ, f0, cX, cY, kF, kG, kH, jM, jN, jO⟩
 obtain ⟨cw, c7, cz, rfl⟩ := fZ.form
 refine q_ (.tuple #[.slice cw c7 cz, bV]) (q_ (.slice cw c7 cz) (q_ (bV) (q_ (bV) (Za (fH _ _ (sq_ fun fI => g_' (q_ (pt_ az 0) ?_)))))))
 have aG := (t_ (t_ (t_ (t_ (t_ (t_ (t_ ab.n ad.n) an.n) ao.n) ar.n) al.n) ag.n) ah.n)
 have f9 := (t_ (t_ (t_ (t_ (t_ (t_ (t_ (t_ (t_ V.n U.n) af.n) ac.n) aa.n) Y.n) D.n) aG) O.n) ae.n)
 have eA := (aC.dj cB (a6.ltF.le f9))
 have dK := (dJ.frS ax (Dj.app cC eA))
 refine lr_ 53 0 (.agg #[i_ 5, i_ 5, i_ 0, i_ 0, i_ 0]) dK ?_
 obtain ⟨lB, eT, hg⟩ := bs_ hf
 refine ck_ (Zaz ax.wf cX cY eT) ?_
 rintro _ i4 ⟨lh, kd, bW, ke, rfl, au, f1, f2, kI, kJ, jP⟩
 obtain ⟨cx, c8, cA, rfl⟩ := f1.form
 refine q_ (.tuple #[.slice cx c8 cA, bW]) (q_ (.slice cx c8 cA) (q_ (bW) (q_ (bW) (Za (fI _ _ (sq_ fun fJ => g_' (q_ (pt_ az 0) ?_)))))))
 have dL := (dK.frS au dn_)
 refine lr_ 53 0 (.agg #[i_ 5, i_ 5, i_ 0, i_ 0, i_ 0]) dL ?_
 have dM := (cX.fr au dn_)
 have dN := (cY.frS au dn_)
 obtain ⟨dY, eU, hh⟩ := bs_ hg
 refine ck_ (ZdN au.wf dM dN eU) ?_
 rintro _ i5 ⟨bX, kf, rfl, ap, f3, kK⟩
 refine q_ (.tuple #[i_ dY.1, bX]) (q_ (i_ dY.1) (q_ (bX) (q_ (bX) (Za (fJ _ _ (sq_ fun fL => g_' ?_))))))
 have dO := (dL.frS ap dn_)
 refine lr_ 53 0 (.agg #[i_ 5, i_ 5, i_ 0, i_ 0, i_ 0]) dO ?_
 obtain ⟨lC, eV, hj⟩ := bs_ hh
 refine ck_ (Zcw ap.wf eV) ?_
 rintro _ i6 ⟨rfl, am⟩
 refine q_ (.tuple #[.slice none 0 0, .iface 78 (i_ 19)]) (q_ (.slice none 0 0) (q_ (.iface 78 (i_ 19)) (q_ (.iface 78 (i_ 19)) (Za (fL _ _ (sq_ fun fM => g_' ?_))))))
 have dQ := (dO.frS am dn_)
 refine lr_ 53 0 (.agg #[i_ 5, i_ 5, i_ 0, i_ 0, i_ 0]) dQ ?_
 obtain ⟨lD, eW, hk⟩ := bs_ hj
 refine ck_ (Zga am.wf eW) ?_
 rintro _ i7 ⟨rfl, I⟩
 refine q_ (.tuple #[i_ 0, .iface 78 (i_ 19)]) (q_ (i_ 0) (q_ (.iface 78 (i_ 19)) (q_ (i_ 0) (q_ (.iface 78 (i_ 19)) (Za (fM _ _ (sq_ fun fN => g_' ?_)))))))
 have ih := (dQ.frS I dn_)
 refine lr_ 53 0 (.agg #[i_ 5, i_ 5, i_ 0, i_ 0, i_ 0]) ih ?_
 obtain ⟨lF, eX, hl⟩ := bs_ hk
 refine ck_ (ZeH I.wf eX) ?_
 rintro _ i8 ⟨rfl, aq⟩
 refine q_ (.tuple #[.slice none 0 0, .iface 78 (i_ 19)]) (q_ (.slice none 0 0) (q_ (.iface 78 (i_ 19)) (q_ (.slice none 0 0) (q_ (.iface 78 (i_ 19)) (Za (fN _ _ (sq_ fun fO => g_' (q_ (pt_ az 0) ?_))))))))
 have ii := ((((dM.fr ap dn_).fr am dn_).fr I dn_).fr aq dn_)
 have ij := ((((dN.frS ap dn_).frS am dn_).frS I dn_).frS aq dn_)
 obtain ⟨ai, eZ, dt⟩ := bs_ hl
 refine ck_ (Zbq aq.wf ii ij eZ) ?_
 rintro li i9 ⟨_, kg, rfl, av, cZ, kL⟩
 obtain ⟨b5, cq, b6, rfl⟩ := cZ.form
 refine q_ (.slice b5 cq b6) (Za (fO _ _ (sq_ fun aI => g_' (q_ (bU) ?_))))
 have eB := (fh.djn (aP.ltF.le cp))
 have ik := (((((((fW.fr ax (Dj.app (Dj.symm eB) (Dj.symm ey))).fr au dn_).fr ap dn_).fr am dn_).fr I dn_).fr aq dn_).fr av dn_)
 rcases (ik).cases with ⟨ck, rfl⟩ | ⟨ck, hX, iz, rfl⟩
 ·have hn := Zd ck dt
  refine q_ (.bool true) (q_ (.bool true) (q_ (.slice bc bC bj) ?_))
  have eC := (fg.djn (aP.ltF.le cp))
  have il := (((((((cW.fr ax (Dj.app (Dj.symm eC) (Dj.symm ex))).fr au dn_).fr ap dn_).fr am dn_).fr I dn_).fr aq dn_).fr av dn_)
  obtain ⟨lG, e0, ho⟩ := bs_ hn
  refine ck_ (Zb6 av.wf il.sq e0) ?_
  rintro ll ja ⟨_, kh, rfl, aw, c0, kM⟩
  obtain ⟨jx, kY, jG, rfl⟩ := c0.form
  refine q_ (.slice aX a2 aY) ?_
  have c9 := (t_ (t_ (t_ (t_ (t_ (t_ (t_ (t_ (t_ (t_ (t_ ac.n aa.n) Y.n) D.n) ab.n) ad.n) an.n) ao.n) ar.n) al.n) ag.n) ah.n)
  have cE := (cH.djn (a1.lt.le c9))
  have cF := (cH.djn (aP.ltF.le c9))
  have eD := (aC.dj (Dj.symm cE) (bw.lt.le ae.n))
  have im := ((((((((((bw.fr ae dn_).fr aA (Dj.app (Dj.symm cF) (Dj.symm cE))).fr ax (Dj.app (Dj.symm cF) eD)).fr au dn_).fr ap dn_).fr am dn_).fr I dn_).fr aq dn_).fr av dn_).fr aw dn_)
  obtain ⟨iF, e1, du⟩ := bs_ ho
  refine ck_ (ZbQ aw.wf c0.sq im.sq e1) ?_
  rintro _ _ ⟨rfl, rfl⟩
  by_cases bp : iF = true
  ·have hq := Zd bp du
   rw [bp]
   refine q_ (.bool true) (q_ (.bool true) (q_ (bV) ?_))
   obtain ⟨lH, e2, hr⟩ := bs_ hq
   refine ck_ (Zbf aw.wf e2) ?_
   rintro _ jb ⟨rfl, aB⟩
   have io := ((((((((f0.fr au dn_).fr ap dn_).fr am dn_).fr I dn_).fr aq dn_).fr av dn_).fr aw dn_).fr aB dn_)
   obtain ⟨iG, e3, dv⟩ := bs_ hr
   refine ck_ (ZaN aB.wf io (Sq.nil (enc := ZbE) (sz := 2) (by decide)) e3) ?_
   rintro _ jc ⟨rfl, aD⟩
   by_cases bq : iG = true
   ·have ht := Zd bq dv
    rw [bq]
    refine q_ (.bool true) (q_ (.bool true) (q_ (bW) ?_))
    obtain ⟨lI, e4, hu⟩ := bs_ ht
    refine ck_ (Zbf aD.wf e4) ?_
    rintro _ je ⟨rfl, aF⟩
    have ip := (((((((((f2.fr ap dn_).fr am dn_).fr I dn_).fr aq dn_).fr av dn_).fr aw dn_).fr aB dn_).fr aD dn_).fr aF dn_)
    obtain ⟨iH, e5, dw⟩ := bs_ hu
    refine ck_ (ZaN aF.wf ip (Sq.nil (enc := ZbE) (sz := 2) (by decide)) e5) ?_
    rintro _ jg ⟨rfl, aH⟩
    by_cases br : iH = true
    ·have hv := Zd br dw
     rw [br]
     refine q_ (.bool true) (q_ (.bool true) (q_ (bX) ?_))
     obtain ⟨lJ, e6, hw⟩ := bs_ hv
     refine ck_ (Zbf aH.wf e6) ?_
     rintro _ jh ⟨rfl, aJ⟩
     have iq := ((((((((((f3.fr am dn_).fr I dn_).fr aq dn_).fr av dn_).fr aw dn_).fr aB dn_).fr aD dn_).fr aF dn_).fr aH dn_).fr aJ dn_)
     obtain ⟨iI, e7, dx⟩ := bs_ hw
     refine ck_ (ZaN aJ.wf iq (Sq.nil (enc := ZbE) (sz := 2) (by decide)) e7) ?_
     rintro _ ji ⟨rfl, aK⟩
     by_cases bs : iI = true
     ·have hx := Zd bs dx
      rw [bs]
      refine q_ (.bool true) (q_ (.bool true) (q_ (.iface 78 (i_ 19)) ?_))
      obtain ⟨lK, e8, hy⟩ := bs_ hx
      refine ck_ (Zbf aK.wf e8) ?_
      rintro _ jj ⟨rfl, aN⟩
      obtain ⟨iJ, e9, dy⟩ := bs_ hy
      refine ck_ (ZaN aN.wf (Ev.no (tf := 116)) (Sq.nil (enc := ZbE) (sz := 2) (by decide)) e9) ?_
      rintro _ jk ⟨rfl, aO⟩
      by_cases bt : iJ = true
      ·have hz := Zd bt dy
       rw [bt]
       refine q_ (.bool true) (q_ (.bool true) (q_ (.iface 78 (i_ 19)) ?_))
       obtain ⟨lL, e_, hA⟩ := bs_ hz
       refine ck_ (Zbf aO.wf e_) ?_
       rintro _ jl ⟨rfl, aT⟩
       obtain ⟨iK, fa, dz⟩ := bs_ hA
       refine ck_ (ZaN aT.wf (Ev.no (tf := 116)) (Sq.nil (enc := ZbE) (sz := 2) (by decide)) fa) ?_
       rintro _ jm ⟨rfl, aU⟩
       by_cases bu : iK = true
       ·have hB := Zd bu dz
        rw [bu]
        refine q_ (.bool true) (q_ (.bool true) (q_ (.iface 78 (i_ 19)) ?_))
        obtain ⟨lM, fb, hC⟩ := bs_ hB
        refine ck_ (Zbf aU.wf fb) ?_
        rintro _ jn ⟨rfl, aZ⟩
        obtain ⟨iL, fc, dA⟩ := bs_ hC
        refine ck_ (ZaN aZ.wf (Ev.no (tf := 116)) (Sq.nil (enc := ZbE) (sz := 2) (by decide)) fc) ?_
        rintro _ jo ⟨rfl, bm⟩
        by_cases bv : iL = true
        ·have dB := Zd bv dA
         rw [bv]
         refine q_ (.bool true) (q_ (.bool true) (q_ (.slice b5 cq b6) ?_))
         have cr := (((((((((((((cZ.fr aw dn_).fr aB dn_).fr aD dn_).fr aF dn_).fr aH dn_).fr aJ dn_).fr aK dn_).fr aN dn_).fr aO dn_).fr aT dn_).fr aU dn_).fr aZ dn_).fr bm dn_)
         refine cr.sq.ln_ 75 ?_
         refine sb_ ((ai.length : Int) = 1) (fun cm => ?_) fun cm => ?_
         ·have hD := Zd cm dB
          refine q_ (.bool true) (q_ (.bool true) (q_ (.slice b5 cq b6) ?_))
          obtain ⟨cG, hE⟩ := Zc hD
          refine cr.sq.ix_ 75 (by decide) cG (le_ 80 0 (.agg #[i_ ((gt ai 0).1), .int .u64 ((gt ai 0).2.1), i_ ((gt ai 0).2.2)]) cr.sq (by decide) cG (q_ (.agg #[i_ 2, .int .u64 5, i_ 1]) (l_' (.bool (decide (((gt ai 0).1) = 2 /\ ((gt ai 0).2.1) = 5 /\ ((gt ai 0).2.2) = 1))) (Z2 Tryz.prog .eql 80 (.tmp 247) (.tmp 248) (.agg #[i_ ((gt ai 0).1), .int .u64 ((gt ai 0).2.1), i_ ((gt ai 0).2.2)]) (.agg #[i_ 2, .int .u64 5, i_ 1])) (Zj8 _ _ ((gt ai 0).1) ((gt ai 0).2.1) ((gt ai 0).2.2) 2 5 1) (q_ (.bool (decide (((gt ai 0).1) = 2 /\ ((gt ai 0).2.1) = 5 /\ ((gt ai 0).2.2) = 1))) (q_ (.bool (decide (((gt ai 0).1) = 2 /\ ((gt ai 0).2.1) = 5 /\ ((gt ai 0).2.2) = 1))) (Za (aI _ _ ?_)))))))
          refine Zf ?_
          refine br_ [.bool (decide (((gt ai 0).1) = 2 /\ ((gt ai 0).2.1) = 5 /\ ((gt ai 0).2.2) = 1))] ?_
          have d1 := (fs_ e (fs_ e (fs_ e (fs_ e (fs_ e (fs_ e (fs_ e ((f0_ e).extR Z) V (aE.fresh (Nat.le_refl _))) U in_) af in_) ac in_) aa in_) Y in_) D in_)
          have f_ := (t_ ab.n ad.n)
          have d2 := (fs_ D.wf (fs_ D.wf (fs_ D.wf (fs_ D.wf (fs_ D.wf (((fs_ D.wf (f0_ D.wf) ab in_).extR ad).extR an) ao (ay.fresh f_)) ar in_) al in_) ag in_) ah in_)
          have bD := (t_ (t_ Z.n V.n) U.n)
          have ga := (t_ (t_ (t_ (t_ (t_ (t_ (t_ Z.n V.n) U.n) af.n) ac.n) aa.n) Y.n) D.n)
          have gb := (t_ (t_ (t_ ga aG) O.n) ae.n)
          have d3 := (fs_ I.wf (fs_ I.wf (fs_ I.wf (fs_ I.wf (fs_ I.wf (fs_ I.wf (fs_ I.wf (fs_ I.wf (f0_ I.wf) aq in_) av in_) aw in_) aB in_) aD in_) aF in_) aH in_) aJ in_)
          obtain rfl := oi_ hE
          exact ⟨rfl, (fs_ e (fs_ e (fs_ e (fs_ e (fs_ e (fs_ e (fs_ e (fs_ e (fs_ e (fs_ e (fs_ e (fs_ e (fs_ e (fs_ e (fs_ e ((fs_ e (fs_ e (f0_ e) d1 in_) d2 in_).extR O) ae in_) aA (Inn.app (ak.fresh bD) (aj.fresh bD))) ax (Inn.app (ak.fresh bD) (Inn.trans (aj.fresh bD) gb aC))) au in_) ap in_) am in_) I in_) d3 in_) aK in_) aN in_) aO in_) aT in_) aU in_) aZ in_) bm in_)⟩
         have hF := Zj cm dB
         refine q_ (.bool false) (q_ (.bool false) (n_' (n_' (n_' (n_' (n_' (q_ (.bool false) (q_ (.bool false) (Za (aI _ _ ?_))))))))))
         refine Zf ?_
         refine br_ [.bool false] ?_
         have d4 := (fs_ e (fs_ e (fs_ e (fs_ e (fs_ e (fs_ e (fs_ e ((f0_ e).extR Z) V (aE.fresh (Nat.le_refl _))) U in_) af in_) ac in_) aa in_) Y in_) D in_)
         have gc := (t_ ab.n ad.n)
         have d5 := (fs_ D.wf (fs_ D.wf (fs_ D.wf (fs_ D.wf (fs_ D.wf (((fs_ D.wf (f0_ D.wf) ab in_).extR ad).extR an) ao (ay.fresh gc)) ar in_) al in_) ag in_) ah in_)
         have bE := (t_ (t_ Z.n V.n) U.n)
         have gd := (t_ (t_ (t_ (t_ (t_ (t_ (t_ Z.n V.n) U.n) af.n) ac.n) aa.n) Y.n) D.n)
         have ge := (t_ (t_ (t_ gd aG) O.n) ae.n)
         have d6 := (fs_ I.wf (fs_ I.wf (fs_ I.wf (fs_ I.wf (fs_ I.wf (fs_ I.wf (fs_ I.wf (fs_ I.wf (f0_ I.wf) aq in_) av in_) aw in_) aB in_) aD in_) aF in_) aH in_) aJ in_)
         obtain rfl := oi_ hF
         exact ⟨rfl, (fs_ e (fs_ e (fs_ e (fs_ e (fs_ e (fs_ e (fs_ e (fs_ e (fs_ e (fs_ e (fs_ e (fs_ e (fs_ e (fs_ e (fs_ e ((fs_ e (fs_ e (f0_ e) d4 in_) d5 in_).extR O) ae in_) aA (Inn.app (ak.fresh bE) (aj.fresh bE))) ax (Inn.app (ak.fresh bE) (Inn.trans (aj.fresh bE) ge aC))) au in_) ap in_) am in_) I in_) d6 in_) aK in_) aN in_) aO in_) aT in_) aU in_) aZ in_) bm in_)⟩
        have hG := Zj bv dA
        rw [nb bv]
        refine q_ (.bool false) (q_ (.bool false) (n_' (n_' (n_' (q_ (.bool false) (q_ (.bool false) (n_' (n_' (n_' (n_' (n_' (q_ (.bool false) (q_ (.bool false) (Za (aI _ _ ?_)))))))))))))))
        refine Zf ?_
        refine br_ [.bool false] ?_
        have d7 := (fs_ e (fs_ e (fs_ e (fs_ e (fs_ e (fs_ e (fs_ e ((f0_ e).extR Z) V (aE.fresh (Nat.le_refl _))) U in_) af in_) ac in_) aa in_) Y in_) D in_)
        have gf := (t_ ab.n ad.n)
        have d8 := (fs_ D.wf (fs_ D.wf (fs_ D.wf (fs_ D.wf (fs_ D.wf (((fs_ D.wf (f0_ D.wf) ab in_).extR ad).extR an) ao (ay.fresh gf)) ar in_) al in_) ag in_) ah in_)
        have bF := (t_ (t_ Z.n V.n) U.n)
        have gg := (t_ (t_ (t_ (t_ (t_ (t_ (t_ Z.n V.n) U.n) af.n) ac.n) aa.n) Y.n) D.n)
        have gh := (t_ (t_ (t_ gg aG) O.n) ae.n)
        have d9 := (fs_ I.wf (fs_ I.wf (fs_ I.wf (fs_ I.wf (fs_ I.wf (fs_ I.wf (fs_ I.wf (fs_ I.wf (f0_ I.wf) aq in_) av in_) aw in_) aB in_) aD in_) aF in_) aH in_) aJ in_)
        obtain rfl := oi_ hG
        exact ⟨rfl, (fs_ e (fs_ e (fs_ e (fs_ e (fs_ e (fs_ e (fs_ e (fs_ e (fs_ e (fs_ e (fs_ e (fs_ e (fs_ e (fs_ e (fs_ e ((fs_ e (fs_ e (f0_ e) d7 in_) d8 in_).extR O) ae in_) aA (Inn.app (ak.fresh bF) (aj.fresh bF))) ax (Inn.app (ak.fresh bF) (Inn.trans (aj.fresh bF) gh aC))) au in_) ap in_) am in_) I in_) d9 in_) aK in_) aN in_) aO in_) aT in_) aU in_) aZ in_) bm in_)⟩
       have hH := Zj bu dz
       rw [nb bu]
       refine q_ (.bool false) (q_ (.bool false) (n_' (n_' (n_' (q_ (.bool false) (q_ (.bool false) (n_' (n_' (n_' (q_ (.bool false) (q_ (.bool false) (n_' (n_' (n_' (n_' (n_' (q_ (.bool false) (q_ (.bool false) (Za (aI _ _ ?_))))))))))))))))))))
       refine Zf ?_
       refine br_ [.bool false] ?_
       have d_ := (fs_ e (fs_ e (fs_ e (fs_ e (fs_ e (fs_ e (fs_ e ((f0_ e).extR Z) V (aE.fresh (Nat.le_refl _))) U in_) af in_) ac in_) aa in_) Y in_) D in_)
       have gi := (t_ ab.n ad.n)
       have ea := (fs_ D.wf (fs_ D.wf (fs_ D.wf (fs_ D.wf (fs_ D.wf (((fs_ D.wf (f0_ D.wf) ab in_).extR ad).extR an) ao (ay.fresh gi)) ar in_) al in_) ag in_) ah in_)
       have bH := (t_ (t_ Z.n V.n) U.n)
       have gj := (t_ (t_ (t_ (t_ (t_ (t_ (t_ Z.n V.n) U.n) af.n) ac.n) aa.n) Y.n) D.n)
       have gk := (t_ (t_ (t_ gj aG) O.n) ae.n)
       have eb := (fs_ I.wf (fs_ I.wf (fs_ I.wf (fs_ I.wf (fs_ I.wf (fs_ I.wf (fs_ I.wf (fs_ I.wf (f0_ I.wf) aq in_) av in_) aw in_) aB in_) aD in_) aF in_) aH in_) aJ in_)
       obtain rfl := oi_ hH
       exact ⟨rfl, (fs_ e (fs_ e (fs_ e (fs_ e (fs_ e (fs_ e (fs_ e (fs_ e (fs_ e (fs_ e (fs_ e (fs_ e (fs_ e ((fs_ e (fs_ e (f0_ e) d_ in_) ea in_).extR O) ae in_) aA (Inn.app (ak.fresh bH) (aj.fresh bH))) ax (Inn.app (ak.fresh bH) (Inn.trans (aj.fresh bH) gk aC))) au in_) ap in_) am in_) I in_) eb in_) aK in_) aN in_) aO in_) aT in_) aU in_)⟩
      have hI := Zj bt dy
      rw [nb bt]
      refine q_ (.bool false) (q_ (.bool false) (n_' (n_' (n_' (q_ (.bool false) (q_ (.bool false) (n_' (n_' (n_' (q_ (.bool false) (q_ (.bool false) (n_' (n_' (n_' (q_ (.bool false) (q_ (.bool false) (n_' (n_' (n_' (n_' (n_' (q_ (.bool false) (q_ (.bool false) (Za (aI _ _ ?_)))))))))))))))))))))))))
      refine Zf ?_
      refine br_ [.bool false] ?_
      have ec := (fs_ e (fs_ e (fs_ e (fs_ e (fs_ e (fs_ e (fs_ e ((f0_ e).extR Z) V (aE.fresh (Nat.le_refl _))) U in_) af in_) ac in_) aa in_) Y in_) D in_)
      have gl := (t_ ab.n ad.n)
      have ed := (fs_ D.wf (fs_ D.wf (fs_ D.wf (fs_ D.wf (fs_ D.wf (((fs_ D.wf (f0_ D.wf) ab in_).extR ad).extR an) ao (ay.fresh gl)) ar in_) al in_) ag in_) ah in_)
      have bI := (t_ (t_ Z.n V.n) U.n)
      have gm := (t_ (t_ (t_ (t_ (t_ (t_ (t_ Z.n V.n) U.n) af.n) ac.n) aa.n) Y.n) D.n)
      have gn := (t_ (t_ (t_ gm aG) O.n) ae.n)
      have ee := (fs_ I.wf (fs_ I.wf (fs_ I.wf (fs_ I.wf (fs_ I.wf (fs_ I.wf (fs_ I.wf (fs_ I.wf (f0_ I.wf) aq in_) av in_) aw in_) aB in_) aD in_) aF in_) aH in_) aJ in_)
      obtain rfl := oi_ hI
      exact ⟨rfl, (fs_ e (fs_ e (fs_ e (fs_ e (fs_ e (fs_ e (fs_ e (fs_ e (fs_ e (fs_ e (fs_ e ((fs_ e (fs_ e (f0_ e) ec in_) ed in_).extR O) ae in_) aA (Inn.app (ak.fresh bI) (aj.fresh bI))) ax (Inn.app (ak.fresh bI) (Inn.trans (aj.fresh bI) gn aC))) au in_) ap in_) am in_) I in_) ee in_) aK in_) aN in_) aO in_)⟩
     have hJ := Zj bs dx
     rw [nb bs]
     refine q_ (.bool false) (q_ (.bool false) (n_' (n_' (n_' (q_ (.bool false) (q_ (.bool false) (n_' (n_' (n_' (q_ (.bool false) (q_ (.bool false) (n_' (n_' (n_' (q_ (.bool false) (q_ (.bool false) (n_' (n_' (n_' (q_ (.bool false) (q_ (.bool false) (n_' (n_' (n_' (n_' (n_' (q_ (.bool false) (q_ (.bool false) (Za (aI _ _ ?_))))))))))))))))))))))))))))))
     refine Zf ?_
     refine br_ [.bool false] ?_
     have ef := (fs_ e (fs_ e (fs_ e (fs_ e (fs_ e (fs_ e (fs_ e ((f0_ e).extR Z) V (aE.fresh (Nat.le_refl _))) U in_) af in_) ac in_) aa in_) Y in_) D in_)
     have go := (t_ ab.n ad.n)
     have eh := (fs_ D.wf (fs_ D.wf (fs_ D.wf (fs_ D.wf (fs_ D.wf (((fs_ D.wf (f0_ D.wf) ab in_).extR ad).extR an) ao (ay.fresh go)) ar in_) al in_) ag in_) ah in_)
     have bJ := (t_ (t_ Z.n V.n) U.n)
     have gp := (t_ (t_ (t_ (t_ (t_ (t_ (t_ Z.n V.n) U.n) af.n) ac.n) aa.n) Y.n) D.n)
     have gq := (t_ (t_ (t_ gp aG) O.n) ae.n)
     have ej := (fs_ I.wf (fs_ I.wf (fs_ I.wf (fs_ I.wf (fs_ I.wf (fs_ I.wf (fs_ I.wf (fs_ I.wf (f0_ I.wf) aq in_) av in_) aw in_) aB in_) aD in_) aF in_) aH in_) aJ in_)
     obtain rfl := oi_ hJ
     exact ⟨rfl, (fs_ e (fs_ e (fs_ e (fs_ e (fs_ e (fs_ e (fs_ e (fs_ e (fs_ e ((fs_ e (fs_ e (f0_ e) ef in_) eh in_).extR O) ae in_) aA (Inn.app (ak.fresh bJ) (aj.fresh bJ))) ax (Inn.app (ak.fresh bJ) (Inn.trans (aj.fresh bJ) gq aC))) au in_) ap in_) am in_) I in_) ej in_) aK in_)⟩
    have hK := Zj br dw
    rw [nb br]
    refine q_ (.bool false) (q_ (.bool false) (n_' (n_' (n_' (q_ (.bool false) (q_ (.bool false) (n_' (n_' (n_' (q_ (.bool false) (q_ (.bool false) (n_' (n_' (n_' (q_ (.bool false) (q_ (.bool false) (n_' (n_' (n_' (q_ (.bool false) (q_ (.bool false) (n_' (n_' (n_' (q_ (.bool false) (q_ (.bool false) (n_' (n_' (n_' (n_' (n_' (q_ (.bool false) (q_ (.bool false) (Za (aI _ _ ?_)))))))))))))))))))))))))))))))))))
    refine Zf ?_
    refine br_ [.bool false] ?_
    have ek := (fs_ e (fs_ e (fs_ e (fs_ e (fs_ e (fs_ e (fs_ e ((f0_ e).extR Z) V (aE.fresh (Nat.le_refl _))) U in_) af in_) ac in_) aa in_) Y in_) D in_)
    have gr := (t_ ab.n ad.n)
    have el := (fs_ D.wf (fs_ D.wf (fs_ D.wf (fs_ D.wf (fs_ D.wf (((fs_ D.wf (f0_ D.wf) ab in_).extR ad).extR an) ao (ay.fresh gr)) ar in_) al in_) ag in_) ah in_)
    have bK := (t_ (t_ Z.n V.n) U.n)
    have gs := (t_ (t_ (t_ (t_ (t_ (t_ (t_ Z.n V.n) U.n) af.n) ac.n) aa.n) Y.n) D.n)
    have gu := (t_ (t_ (t_ gs aG) O.n) ae.n)
    obtain rfl := oi_ hK
    exact ⟨rfl, (fs_ e (fs_ e (fs_ e (fs_ e (fs_ e (fs_ e (fs_ e (fs_ e (fs_ e (fs_ e (fs_ e (fs_ e (fs_ e (fs_ e ((fs_ e (fs_ e (f0_ e) ek in_) el in_).extR O) ae in_) aA (Inn.app (ak.fresh bK) (aj.fresh bK))) ax (Inn.app (ak.fresh bK) (Inn.trans (aj.fresh bK) gu aC))) au in_) ap in_) am in_) I in_) aq in_) av in_) aw in_) aB in_) aD in_) aF in_) aH in_)⟩
   have hL := Zj bq dv
   rw [nb bq]
   refine q_ (.bool false) (q_ (.bool false) (n_' (n_' (n_' (q_ (.bool false) (q_ (.bool false) (n_' (n_' (n_' (q_ (.bool false) (q_ (.bool false) (n_' (n_' (n_' (q_ (.bool false) (q_ (.bool false) (n_' (n_' (n_' (q_ (.bool false) (q_ (.bool false) (n_' (n_' (n_' (q_ (.bool false) (q_ (.bool false) (n_' (n_' (n_' (q_ (.bool false) (q_ (.bool false) (n_' (n_' (n_' (n_' (n_' (q_ (.bool false) (q_ (.bool false) (Za (aI _ _ ?_))))))))))))))))))))))))))))))))))))))))
   refine Zf ?_
   refine br_ [.bool false] ?_
   have em := (fs_ e (fs_ e (fs_ e (fs_ e (fs_ e (fs_ e (fs_ e ((f0_ e).extR Z) V (aE.fresh (Nat.le_refl _))) U in_) af in_) ac in_) aa in_) Y in_) D in_)
   have gv := (t_ ab.n ad.n)
   have en := (fs_ D.wf (fs_ D.wf (fs_ D.wf (fs_ D.wf (fs_ D.wf (((fs_ D.wf (f0_ D.wf) ab in_).extR ad).extR an) ao (ay.fresh gv)) ar in_) al in_) ag in_) ah in_)
   have bL := (t_ (t_ Z.n V.n) U.n)
   have gw := (t_ (t_ (t_ (t_ (t_ (t_ (t_ Z.n V.n) U.n) af.n) ac.n) aa.n) Y.n) D.n)
   have gx := (t_ (t_ (t_ gw aG) O.n) ae.n)
   obtain rfl := oi_ hL
   exact ⟨rfl, (fs_ e (fs_ e (fs_ e (fs_ e (fs_ e (fs_ e (fs_ e (fs_ e (fs_ e (fs_ e (fs_ e (fs_ e ((fs_ e (fs_ e (f0_ e) em in_) en in_).extR O) ae in_) aA (Inn.app (ak.fresh bL) (aj.fresh bL))) ax (Inn.app (ak.fresh bL) (Inn.trans (aj.fresh bL) gx aC))) au in_) ap in_) am in_) I in_) aq in_) av in_) aw in_) aB in_) aD in_)⟩
  have hN := Zj bp du
  rw [nb bp]
  refine q_ (.bool false) (q_ (.bool false) (n_' (n_' (n_' (q_ (.bool false) (q_ (.bool false) (n_' (n_' (n_' (q_ (.bool false) (q_ (.bool false) (n_' (n_' (n_' (q_ (.bool false) (q_ (.bool false) (n_' (n_' (n_' (q_ (.bool false) (q_ (.bool false) (n_' (n_' (n_' (q_ (.bool false) (q_ (.bool false) (n_' (n_' (n_' (q_ (.bool false) (q_ (.bool false) (n_' (n_' (n_' (q_ (.bool false) (q_ (.bool false) (n_' (n_' (n_' (n_' (n_' (q_ (.bool false) (q_ (.bool false) (Za (aI _ _ ?_)))))))))))))))))))))))))))))))))))))))))))))
  refine Zf ?_
  refine br_ [.bool false] ?_
  have eo := (fs_ e (fs_ e (fs_ e (fs_ e (fs_ e (fs_ e (fs_ e ((f0_ e).extR Z) V (aE.fresh (Nat.le_refl _))) U in_) af in_) ac in_) aa in_) Y in_) D in_)
  have gy := (t_ ab.n ad.n)
  have ep := (fs_ D.wf (fs_ D.wf (fs_ D.wf (fs_ D.wf (fs_ D.wf (((fs_ D.wf (f0_ D.wf) ab in_).extR ad).extR an) ao (ay.fresh gy)) ar in_) al in_) ag in_) ah in_)
  have bM := (t_ (t_ Z.n V.n) U.n)
  have gz := (t_ (t_ (t_ (t_ (t_ (t_ (t_ Z.n V.n) U.n) af.n) ac.n) aa.n) Y.n) D.n)
  have gA := (t_ (t_ (t_ gz aG) O.n) ae.n)
  obtain rfl := oi_ hN
  exact ⟨rfl, (fs_ e (fs_ e (fs_ e (fs_ e (fs_ e (fs_ e (fs_ e (fs_ e (fs_ e (fs_ e ((fs_ e (fs_ e (f0_ e) eo in_) ep in_).extR O) ae in_) aA (Inn.app (ak.fresh bM) (aj.fresh bM))) ax (Inn.app (ak.fresh bM) (Inn.trans (aj.fresh bM) gA aC))) au in_) ap in_) am in_) I in_) aq in_) av in_) aw in_)⟩
 have hO := Zj ck dt
 refine l_' (.bool false) (Z2 Tryz.prog .eql 38 (.tmp 201) (.const .nilIface) (.iface hX iz) .nilIface) (ZeY (by kernel_rfl)) (q_ (.bool false) (n_' (n_' (n_' (n_' (q_ (.bool false) (q_ (.bool false) (n_' (n_' (n_' (q_ (.bool false) (q_ (.bool false) (n_' (n_' (n_' (q_ (.bool false) (q_ (.bool false) (n_' (n_' (n_' (q_ (.bool false) (q_ (.bool false) (n_' (n_' (n_' (q_ (.bool false) (q_ (.bool false) (n_' (n_' (n_' (q_ (.bool false) (q_ (.bool false) (n_' (n_' (n_' (q_ (.bool false) (q_ (.bool false) (n_' (n_' (n_' (q_ (.bool false) (q_ (.bool false) (n_' (n_' (n_' (n_' (n_' (q_ (.bool false) (q_ (.bool false) (Za (aI _ _ ?_)))))))))))))))))))))))))))))))))))))))))))))))))))
 refine Zf ?_
 refine br_ [.bool false] ?_
 have eq := (fs_ e (fs_ e (fs_ e (fs_ e (fs_ e (fs_ e (fs_ e ((f0_ e).extR Z) V (aE.fresh (Nat.le_refl _))) U in_) af in_) ac in_) aa in_) Y in_) D in_)
 have gB := (t_ ab.n ad.n)
 have es := (fs_ D.wf (fs_ D.wf (fs_ D.wf (fs_ D.wf (fs_ D.wf (((fs_ D.wf (f0_ D.wf) ab in_).extR ad).extR an) ao (ay.fresh gB)) ar in_) al in_) ag in_) ah in_)
 have bN := (t_ (t_ Z.n V.n) U.n)
 have gC := (t_ (t_ (t_ (t_ (t_ (t_ (t_ Z.n V.n) U.n) af.n) ac.n) aa.n) Y.n) D.n)
 have gD := (t_ (t_ (t_ gC aG) O.n) ae.n)
 obtain rfl := oi_ hO
 exact ⟨rfl, (fs_ e (fs_ e (fs_ e (fs_ e (fs_ e (fs_ e (fs_ e (fs_ e (fs_ e ((fs_ e (fs_ e (f0_ e) eq in_) es in_).extR O) ae in_) aA (Inn.app (ak.fresh bN) (aj.fresh bN))) ax (Inn.app (ak.fresh bN) (Inn.trans (aj.fresh bN) gD aC))) au in_) ap in_) am in_) I in_) aq in_) av in_)⟩
end Go.Vd
