/- The walks of the functions (printed by a program of ours). -/
import Derived.Test.YtnepbkkdhalbiaaGreatDoorPsn3
import Derived.Test.YtnepbkkdhalbiaaGreatDoorPsnISn
import Derived.Test.YtnepbkkdhalbiaaGreatDoorPsnVeN
import Derived.Test.YtnepbkkdhalbiaaGreatDoorPsnSoA
import Derived.Test.YtnepbkkdhalbiaaGreatDoorPsnVeV
set_option linter.unusedVariables false
set_option linter.unusedSimpArgs false
set_option linter.unusedSectionVars false
/-! (KSn4) -/

set_option maxRecDepth 100000
set_option maxHeartbeats 4000000
set_option linter.unusedVariables false
namespace Go.Vd
open Go.Proofs
attribute [local irreducible] Zp Zr aWp
theorem Zgd {H : AH} {O : Nat} {ap : Value} {aH : Fp} {ay : List (Bool × List (Int × Int × Int) × List (Int × Int × Int))} {az : Int} {aA : Int} {Y : Int} {ad : Int} {ae : Int} {ac : Int} {aa : Int} {ab : Int} {r : Int × Er}
    (e : WF H) (aL : Nd Zc 3 H ap ay aH []) (aK : Row H O [ap, i_ az, i_ aA]) (aq : Zc1 ay az aA Y ad ae ac aa ab = some r) :
    ACalls Tryz.prog 23 #[pt_ O 0, i_ Y, .agg #[i_ ad, i_ ae, i_ ac, i_ aa, i_ ab]] H fun v H' => ∃ (v3 : Value) (ao : Fp), v = .tuple #[i_ r.1, v3] /\ FrS [] H H' /\ Ev 78 116 H' v3 r.2 ao /\ Inn [] H ao := by
 refine ab_ Tryz.func23 ?_
 unfold Zc1 at aq
 refine sq_ fun aT => g_' ?_
 refine rl_ e [i_ ad, i_ ae, i_ ac, i_ aa, i_ ab] fun be bb D bj aV => ?_
 refine q_ (i_ 0) (q_ (.nilIface) (Za (aT _ _ (sq_ fun aQ => g_' (q_ (pt_ O 0) (q_ (i_ Y) (lr_ 53 0 (.agg #[i_ ad, i_ ae, i_ ac, i_ aa, i_ ab]) aV ?_)))))))
 have aC := (aL.ext D)
 have aD := (aK.ext D)
 obtain ⟨ak, aM, aB⟩ := bs_ aq
 refine ck_ (Zed D.wf aC aD aM) ?_
 rintro _ a8 ⟨bp, f20, aj, f22, rfl, U, au, av, bk, aP, bh⟩
 obtain ⟨af, ai, ag, rfl⟩ := au.form
 refine q_ (.tuple #[.slice af ai ag, aj]) (q_ (.slice af ai ag) (q_ (aj) (q_ (.slice af ai ag) (q_ (aj) (Za (aQ _ _ (sq_ fun aR => sq_ fun ar => g_' (q_ (aj) ?_))))))))
 rcases (av).cases with ⟨am, rfl⟩ | ⟨am, V, Z, rfl⟩
 ·have aW := Ze am aB
  refine q_ (.bool false) (Za (ar _ _ ?_))
  refine wb_ false (fun h => by cases h) fun _ => ?_
  refine Zf (aR _ _ (sq_ fun aS => g_' (q_ (.slice af ai ag) (au.sq.ln_ 54 (q_ (pt_ O 0) (q_ (i_ Y) ?_))))))
  have aE := (aC.fr U dn_)
  have aF := (aD.frS U dn_)
  obtain ⟨al, aN, aX⟩ := bs_ aW
  refine ck_ (Zd9 U.wf aE aF aN) ?_
  rintro bq a_ ⟨_, f48, rfl, ah, aw, bl⟩
  obtain ⟨bc, bn, bf, rfl⟩ := aw.form
  refine aw.sq.ln_ 75 ?_
  obtain ⟨aI, aY⟩ := Zb aX
  refine w_' (((ak.1.length : Int) - (al.length : Int))) (Zn aI) (q_ (pt_ O 0) (q_ (i_ Y) ?_))
  have a6 := (aE.fr ah dn_)
  have a7 := (aF.frS ah dn_)
  obtain ⟨an, aO, aZ⟩ := bs_ aY
  refine ck_ (Zcu ah.wf a6 a7 aO) ?_
  rintro br ba ⟨_, bi, rfl, aG, ax, bm⟩
  obtain ⟨bd, bo, bg, rfl⟩ := ax.form
  refine ax.sq.ln_ 75 ?_
  obtain ⟨aJ, a1⟩ := Zb aZ
  refine w_' ((((ak.1.length : Int) - (al.length : Int)) - (an.length : Int))) (Zn aJ) (q_ (i_ (((ak.1.length : Int) - (al.length : Int)) - (an.length : Int))) (q_ (.nilIface) (Za (aS _ _ ?_))))
  refine Zg ?_
  refine br_ [i_ (((ak.1.length : Int) - (al.length : Int)) - (an.length : Int)), .nilIface] ?_
  obtain rfl := oi_ a1
  exact ⟨(.nilIface), [], rfl, (fs_ e (fs_ e (fs_ e ((f0_ e).extR D) U in_) ah in_) aG in_), Ev.nil, in_⟩
 have a2 := Zi am aB
 refine l_' (.bool true) (Zb1 Tryz.prog .neq 38 (.tmp 17) (.const .nilIface) (.iface V Z) .nilIface) (Zd7 (by kernel_rfl)) (Za (ar _ _ ?_))
 refine wb_ true (fun _ => ?_) fun h => by cases h
 refine sq_ fun aU => g_' (q_ (.iface V Z) (q_ (i_ 0) (q_ (.iface V Z) (Za (aU _ _ ?_)))))
 refine Zg (Zh ?_)
 refine br_ [i_ 0, .iface V Z] ?_
 obtain rfl := oi_ a2
 exact ⟨(.iface V Z), f22, rfl, (fs_ e ((f0_ e).extR D) U in_), av, (aP.fresh D.n)⟩
theorem ZeL {H : AH} {af : Value} {aP : Fp} {l : List (Int × Int × Int)} {r : List (Int × Int × Int)}
    (D : WF H) (ay : Sq ZB 3 H af l aP) (aF : ZbY l = some r) :
    ACalls Tryz.prog 22 #[af] H fun v H' => ∃ (aK : Value) (aw : Fp), v = aK /\ FrS [] H H' /\ Ow ZB 3 H' aK r aw /\ Inn [] H aw := by
 refine ab_ Tryz.func22 ?_
 unfold ZbY at aF
 refine sq_ fun a7 => g_' (q_ (.slice none 0 0) (Za (a7 _ _ (sq_ fun a8 => g_' (q_ (.slice none 0 0) (Za (a8 _ _ (sq_ fun a_ => sq_ fun ba => g_' (q_ (af) (ay.ln_ 54 (q_ (i_ 0) (Za (ba _ _ ?_)))))))))))))
 obtain ⟨aJ, aV, bg⟩ := bs_ aF
 refine ZC (fun α ai => ∃ (aq : Value) (ae : Fp), Has α [(3, aq)] /\ FrS [] H ai /\ Ow ZB 3 ai aq aJ ae /\ Inn [] H ae) (fun _ aX => ?_) (fun α ai hM => ?_)
 ·refine Zm ?_
  obtain ⟨aH, aU⟩ := Zu.1 aV
  refine ZJ (fun n α aj => ∃ (Y : List (Int × Int × Int)), ∃ (e : Int), ∃ (ar : Value), ∃ (f29 : Fp), ZR (fun zz_ => ZbS l zz_.1 zz_.2) n (Y, e) = some aJ /\ Has α [(3, ar), (6, af), (7, i_ (l.length : Int)), (8, i_ e)] /\ FrS [] H aj /\ Ow ZB 3 aj ar Y f29 /\ Inn [] H f29) aH ⟨[], 0, (.slice none 0 0), [], aU, ha_, (f0_ D), (Ow.nil (by decide)), in_⟩ ?_
  rintro aH α aj ⟨Y, e, ar, f29, aT, aB, O, ag, an⟩ bt aY
  obtain ⟨bc, bo, rfl, V, aE⟩ := Zy aT
  obtain ⟨β, rfl⟩ := Zk aB
  clear aB
  replace V : ZbS l Y e = some bo := V
  unfold ZbS at V
  obtain ⟨au, aI, av, rfl⟩ := ag.form
  refine sq_ fun aZ => g_' (q_ (.bool (decide (e < (l.length : Int)))) (Za (aZ _ _ (sq_ fun a1 => ?_))))
  refine wc_ (e < (l.length : Int)) (fun U => ?_) fun U => ?_
  ·have bh := Ze U V
   refine Zf (a1 _ _ (sq_ fun a2 => Zm (sq_ fun a6 => g_' ?_)))
   obtain ⟨ax, bi⟩ := Zb bh
   have aL := (ay.fr O dn_)
   refine aL.ix_ 54 ax U (le_ 131 0 (.agg #[i_ ((gt l e).1), i_ ((gt l e).2.1), .int .u64 ((gt l e).2.2)]) aL ax U ?_)
   refine rk_ O.wf [i_ 0, i_ 0, .int .u64 0] fun al bp ab az bj => ?_
   obtain ⟨bq, be, ac, ap⟩ := ra_ 131 0 ab.wf bj [i_ ((gt l e).1), i_ ((gt l e).2.1), .int .u64 ((gt l e).2.2)] [i_ ((gt l e).1), i_ ((gt l e).2.1), .int .u64 ((gt l e).2.2)]
   refine ek_ be (Za (a6 _ _ (g_' (q_ (.slice au aI av) (q_ (pt_ al 0) (lr_ 3 0 (i_ ((gt l e).1)) ap (q_ (pt_ al 1) (lr_ 3 1 (i_ ((gt l e).2.1)) ap (q_ (pt_ al 2) (lr_ 27 2 (.int .u64 ((gt l e).2.2)) ap (q_ (.agg #[i_ ((gt l e).1), i_ ((gt l e).2.1), .int .u64 ((gt l e).2.2)]) ?_)))))))))))
   refine Zbl (enc := ZB) (sz := 3) ac.wf [((gt l e).1, (gt l e).2.1, (gt l e).2.2)] 1 (by decide) (fun _ _ => rfl) (fun _ _ => rfl) rfl (by kernel_rfl) fun bz bv br ad bw aC => ?_
   obtain ⟨a66, bx, bu, rfl⟩ := aC.form
   have bn := (((ag.ext ab).fr ac (az.djn ag.lt)).ext ad)
   obtain ⟨aQ, bk⟩ := Zb bi
   obtain ⟨bA, bs, aO, bf, aN, aD, aS⟩ := Ow.append (P := Tryz.prog) 24 ad.wf bn aC.sq (fun _ _ => rfl) (at_ := #[57, 57]) rfl rfl (by kernel_rfl) (by kernel_rfl) (by decide) (by have := aQ; first | omega | (simp only [List.length_cons, List.length_nil] at this ⊢; omega) | (simp at this ⊢; omega))
   obtain ⟨ak, ao, am, rfl⟩ := aD.form
   refine ZaN (.slice ak ao am) (by kernel_rfl) (bf) ?_
   refine q_ (.slice ak ao am) (Za (a2 _ _ (g_' ?_)))
   obtain ⟨aR, bl⟩ := Zb bk
   refine w_' ((e + 1)) (Zn (by have := aR; omega)) (q_ (i_ (e + 1)) (Za ?_))
   have bd := (t_ (t_ (t_ O.n ab.n) ac.n) ad.n)
   obtain rfl := oi_ bl
   exact aY bc _ _ lt_ ⟨(Y ++ [((gt l e).1, (gt l e).2.1, (gt l e).2.2)]), (e + 1), (.slice ak ao am), aO, aE, ha_, (fs_ D ((fs_ D ((fs_ D (f0_ D) O in_).extR ab) ac (az.fresh O.n)).extR ad) aN (an.fresh (Nat.le_refl _))), aD, (Inn.trans (an.fresh (Nat.le_refl _)) bd aS)⟩
  have bm := Zi U V
  refine ZK (Zj (Zj (ZV ?_)))
  obtain rfl := oi_ bm
  obtain rfl := Zx aE
  exact aX _ _ ⟨(.slice au aI av), f29, ha_, (fs_ D (f0_ D) O in_), ag, (an.fresh (Nat.le_refl _))⟩
 obtain ⟨aq, ae, aA, aM, aG, aW⟩ := hM
 obtain ⟨β, rfl⟩ := Zk aA
 clear aA
 obtain ⟨Z, ah, aa, rfl⟩ := aG.form
 refine a_ _ _ (sq_ fun bb => g_' (q_ (.slice Z ah aa) (q_ (.slice Z ah aa) (Za (bb _ _ ?_)))))
 refine Zg ?_
 refine br_ [.slice Z ah aa] ?_
 obtain rfl := oi_ bg
 exact ⟨(.slice Z ah aa), ae, rfl, (fs_ D (f0_ D) aM in_), aG, (aW.fresh (Nat.le_refl _))⟩
theorem Zem {H : AH} {D : Value} {aq : Fp} {U : Value} {ar : Fp} {a : List (Int × Int × Int)} {b : List (Int × Int × Int)} {r : Bool}
    (aY : WF H) (Z : Sq ZB 3 H D a aq) (ac : Sq ZB 3 H U b ar) (ae : Za6 a b = some r) :
    ACalls Tryz.prog 21 #[D, U] H fun v H' => v = .bool r /\ H = H' := by
 refine ab_ Tryz.func21 ?_
 unfold Za6 at ae
 refine sq_ fun k1 => g_' (q_ (.bool false) (Za (k1 _ _ (sq_ fun k2 => sq_ fun k3 => g_' (q_ (D) (Z.ln_ 57 (q_ (U) (ac.ln_ 57 (q_ (.bool (!decide ((a.length : Int) = (b.length : Int)))) (Za (k3 _ _ ?_)))))))))))
 refine Zde ((a.length : Int) = (b.length : Int)) (by kernel_rfl) rfl (fun aa => ?_) (fun aa => ?_)
 ·have aS := Zi aa ae
  refine sq_ fun aJ => g_' (q_ (.bool false) (Za (aJ _ _ ?_)))
  refine Zg (Zh ?_)
  refine br_ [.bool false] ?_
  obtain rfl := oi_ aS
  exact ⟨rfl, rfl⟩
 have aV := Ze aa ae
 refine Zf (k2 _ _ (sq_ fun aK => sq_ fun aL => g_' (q_ (D) (Z.ln_ 57 (q_ (i_ 0) (Za (aL _ _ ?_)))))))
 obtain ⟨ap, ay, an⟩ := bs_ aV
 refine ZC (fun α af => ∃ am, ap = Sum.inr am /\ Has α [] /\ H = af) (fun _ aA => ?_) (fun α af hM => ?_)
 ·refine Zm ?_
  obtain ⟨al, aw⟩ := Zu.1 ay
  refine ZJ (fun n α ag => ∃ (e : Int), ZR (fun zz_ => Zba a b zz_) n e = some ap /\ Has α [(0, D), (1, U), (12, i_ (a.length : Int)), (13, i_ e)] /\ H = ag) al ⟨0, aw, ha_, rfl⟩ ?_
  rintro al α ag ⟨e, av, aj, rfl⟩ aW aB
  obtain ⟨aM, z25, rfl, V, ad⟩ := Zy av
  obtain ⟨β, rfl⟩ := Zk aj
  clear aj
  replace V : Zba a b e = some z25 := V
  unfold Zba at V
  refine sq_ fun aC => g_' (q_ (.bool (decide (e < (a.length : Int)))) (Za (aC _ _ (sq_ fun aD => ?_))))
  refine wc_ (e < (a.length : Int)) (fun O => ?_) fun O => ?_
  ·have aN := Ze O V
   refine Zf (aD _ _ (sq_ fun aE => Zm (sq_ fun aF => g_' (q_ (i_ e) (q_ (i_ e) (Za (aF _ _ (sq_ fun aG => ?_))))))))
   refine ZQ [0, 1, 2, 3, 4, 5, 6, 7, 8] (by kernel_rfl) ?_
   refine e_' (D) (e_' (i_ e) ?_)
   obtain ⟨Y, aO⟩ := Zb aN
   refine Z.mx_ 57 Y O (me_ 72 0 (.agg #[i_ ((gt a e).1), i_ ((gt a e).2.1), .int .u64 ((gt a e).2.2)]) Z Y O (e_' (U) (e_' (i_ e) ?_)))
   obtain ⟨ah, ao⟩ := Zb aO
   refine ac.mx_ 57 Y ah (me_ 72 0 (.agg #[i_ ((gt b e).1), i_ ((gt b e).2.1), .int .u64 ((gt b e).2.2)]) ac Y ah (m_' (.bool (!decide (((gt a e).1) = ((gt b e).1) /\ ((gt a e).2.1) = ((gt b e).2.1) /\ ((gt a e).2.2) = ((gt b e).2.2)))) (Zb1 Tryz.prog .neq 72 (.tmp 19) (.tmp 23) (.agg #[i_ ((gt a e).1), i_ ((gt a e).2.1), .int .u64 ((gt a e).2.2)]) (.agg #[i_ ((gt b e).1), i_ ((gt b e).2.1), .int .u64 ((gt b e).2.2)])) (ZkJ _ _ ((gt a e).1) ((gt a e).2.1) ((gt a e).2.2) ((gt b e).1) ((gt b e).2.1) ((gt b e).2.2)) ?_))
   refine ZI ?_
   refine aG _ _ ?_
   refine Zde (((gt a e).1) = ((gt b e).1) /\ ((gt a e).2.1) = ((gt b e).2.1) /\ ((gt a e).2.2) = ((gt b e).2.2)) (by kernel_rfl) rfl (fun ab => ?_) (fun ab => ?_)
   ·have aP := Zi ab ao
    refine sq_ fun aH => g_' (q_ (.bool false) (Za (aH _ _ ?_)))
    refine Zg (ZN (Zh (Zh (ZN (Zh (Zh ?_))))))
    obtain ⟨aX, ak, az⟩ := map_some aP
    subst az
    obtain rfl := Zx ad
    have ax := elim_inl an
    rw [ax] at ak
    refine br_ [.bool false] ?_
    obtain rfl := oi_ ak
    exact ⟨rfl, rfl⟩
   have aQ := Ze ab ao
   refine Zf (aE _ _ (g_' ?_))
   obtain ⟨au, aR⟩ := Zb aQ
   refine w_' ((e + 1)) (Zn (by have := au; omega)) (q_ (i_ (e + 1)) (Za ?_))
   obtain rfl := oi_ aR
   exact aB aM _ _ lt_ ⟨(e + 1), ad, ha_, rfl⟩
  have aT := Zi O V
  refine ZK (Zj (Zj (ZV ?_)))
  obtain rfl := oi_ aT
  obtain rfl := Zx ad
  exact aA _ _ ⟨_, rfl, trivial, rfl⟩
 obtain ⟨am, rfl, ai, rfl⟩ := hM
 have aU := elim_inr an
 obtain ⟨β, rfl⟩ := Zk ai
 clear ai
 refine aK _ _ (sq_ fun aI => g_' (q_ (.bool true) (Za (aI _ _ ?_))))
 refine Zg ?_
 refine br_ [.bool true] ?_
 obtain rfl := oi_ aU
 exact ⟨rfl, rfl⟩
theorem Zf1 {H : AH} {r : Bool}
    (e : WF H) (ao : ZbM = some r) :
    ACalls Tryz.prog 17 #[] H fun v H' => v = .bool r /\ FrS [] H H' := by
 refine ab_ Tryz.func17 ?_
 unfold ZbM at ao
 refine sq_ fun k1 => g_' (q_ (.bool false) (Za (k1 _ _ (sq_ fun k2 => g_' ?_))))
 obtain ⟨bL, aC, aP⟩ := bs_ ao
 refine ck_ (Zgf e aC) ?_
 rintro _ a8 ⟨bG, bo, rfl, Y, ap, bs⟩
 obtain ⟨bc, bB, bg, rfl⟩ := ap.form
 obtain ⟨a1, aA, av⟩ := bs_ aP
 rcases a1 with bJ | bK
 ·exact (Zkf (Zji av)).elim
 have aN := Zjh av
 refine ck_ (Zge Y.wf ap.sq aA) ?_
 rintro _ a2 ⟨bE, f23, U, rfl, V, ak, aq, bt, bu, bj⟩
 obtain ⟨bd, bC, bh, rfl⟩ := ak.form
 refine q_ (.tuple #[pt_ U 0, .nilIface]) (q_ (pt_ U 0) (q_ (.nilIface) (q_ (pt_ U 0) (q_ (.nilIface) (Za (k2 _ _ (sq_ fun aF => g_' (q_ (pt_ U 0) (q_ (.agg #[i_ 5, i_ 5, i_ 0, i_ 0, i_ 0]) ?_)))))))))
 obtain ⟨bM, aB, aO⟩ := bs_ aN
 refine ck_ (Zed V.wf ak aq aB) ?_
 rintro _ a6 ⟨bF, bl, ae, bm, rfl, D, ar, aH, bv, bw, bk⟩
 obtain ⟨aa, ad, ab, rfl⟩ := ar.form
 refine q_ (.tuple #[.slice aa ad ab, ae]) (q_ (.slice aa ad ab) (q_ (ae) (q_ (.slice aa ad ab) (q_ (ae) (Za (aF _ _ (sq_ fun aG => g_' (q_ (pt_ U 0) (q_ (.agg #[i_ 5, i_ 5, i_ 0, i_ 0, i_ 0]) ?_)))))))))
 have aU := (ak.fr D dn_)
 have aV := (aq.frS D dn_)
 obtain ⟨Z, aD, aw⟩ := bs_ aO
 refine ck_ (Zgd D.wf aU aV aD) ?_
 rintro _ a7 ⟨af, bn, rfl, O, aI, bx⟩
 refine q_ (.tuple #[i_ Z.1, af]) (q_ (i_ Z.1) (q_ (af) (q_ (i_ Z.1) (q_ (af) (Za (aG _ _ (sq_ fun ac => g_' (q_ (.nilIface) (q_ (.bool true) (q_ (.bool true) (q_ (ae) ?_)))))))))))
 have aW := (aH.fr O dn_)
 rcases (aW).cases with ⟨ah, rfl⟩ | ⟨ah, aS, aY, rfl⟩
 ·have ax := Ze ah aw
  refine q_ (.bool true) (q_ (.bool true) (q_ (.bool true) (q_ (af) ?_)))
  rcases (aI).cases with ⟨ai, rfl⟩ | ⟨ai, t77, aZ, rfl⟩
  ·have ay := Ze ai ax
   refine q_ (.bool true) (q_ (.bool true) (q_ (.bool true) (q_ (i_ Z.1) ?_)))
   refine sb_ (Z.1 = (-1)) (fun aj => ?_) fun aj => ?_
   ·have aQ := Ze aj ay
    refine q_ (.bool true) (q_ (.bool true) (q_ (.slice aa ad ab) ?_))
    have aX := (ar.fr O dn_)
    obtain ⟨bN, aE, aR⟩ := bs_ aQ
    refine ck_ (ZeL O.wf aX.sq aE) ?_
    rintro bH a_ ⟨_, bp, rfl, am, au, bz⟩
    obtain ⟨be, bD, bi, rfl⟩ := au.form
    refine q_ (.agg #[i_ 0, i_ 2, .int .u64 5]) ?_
    refine Zbl (enc := ZB) (sz := 3) am.wf [(0, 2, 5)] 1 (by decide) (fun _ _ => rfl) (fun _ _ => rfl) rfl (by kernel_rfl) fun bI bq ba ag br an => ?_
    obtain ⟨bb, bA, bf, rfl⟩ := an.form
    have aT := (au.ext ag)
    obtain ⟨al, az, aJ⟩ := bs_ aR
    refine ck_ (Zem ag.wf aT.sq an.sq az) ?_
    rintro _ _ ⟨rfl, rfl⟩
    refine q_ (.bool al) (q_ (.bool al) (Za (ac _ _ ?_)))
    refine Zg ?_
    refine br_ [.bool al] ?_
    obtain rfl := oi_ aJ
    exact ⟨rfl, ((fs_ e (fs_ e (fs_ e (fs_ e (fs_ e (f0_ e) Y in_) V in_) D in_) O in_) am in_).extR ag)⟩
   have aK := Zi aj ay
   refine q_ (.bool false) (q_ (.bool false) (n_' (n_' (n_' (n_' (n_' (q_ (.bool false) (q_ (.bool false) (Za (ac _ _ ?_))))))))))
   refine Zg ?_
   refine br_ [.bool false] ?_
   obtain rfl := oi_ aK
   exact ⟨rfl, (fs_ e (fs_ e (fs_ e (fs_ e (f0_ e) Y in_) V in_) D in_) O in_)⟩
  have aL := Zi ai ax
  refine l_' (.bool false) (Zb1 Tryz.prog .eql 38 (.tmp 31) (.const .nilIface) (.iface t77 aZ) .nilIface) (ZeY (by kernel_rfl)) (q_ (.bool false) (q_ (.bool false) (n_' (n_' (q_ (.bool false) (q_ (.bool false) (n_' (n_' (n_' (n_' (n_' (q_ (.bool false) (q_ (.bool false) (Za (ac _ _ ?_)))))))))))))))
  refine Zg ?_
  refine br_ [.bool false] ?_
  obtain rfl := oi_ aL
  exact ⟨rfl, (fs_ e (fs_ e (fs_ e (fs_ e (f0_ e) Y in_) V in_) D in_) O in_)⟩
 have aM := Zi ah aw
 refine l_' (.bool false) (Zb1 Tryz.prog .eql 38 (.tmp 27) (.const .nilIface) (.iface aS aY) .nilIface) (ZeY (by kernel_rfl)) (q_ (.bool false) (q_ (.bool false) (n_' (n_' (q_ (.bool false) (q_ (.bool false) (n_' (n_' (q_ (.bool false) (q_ (.bool false) (n_' (n_' (n_' (n_' (n_' (q_ (.bool false) (q_ (.bool false) (Za (ac _ _ ?_)))))))))))))))))))
 refine Zg ?_
 refine br_ [.bool false] ?_
 obtain rfl := oi_ aM
 exact ⟨rfl, (fs_ e (fs_ e (fs_ e (fs_ e (f0_ e) Y in_) V in_) D in_) O in_)⟩
theorem ZaW {H : AH} {e : Int} {r : Int}
    (D : WF H) (U : Zac e = some r) :
    ACalls Tryz.prog 30 #[i_ e] H fun v H' => v = .agg #[i_ r, .slice none 0 0] /\ FrS [] H H' := by
 refine ab_ Tryz.func30 ?_
 unfold Zac at U
 refine sq_ fun k1 => g_' ?_
 refine rk_ D [i_ 0, .slice none 0 0] fun b2 ae O Z ad => ?_
 refine Za (k1 _ _ (sq_ fun aa => g_' (q_ (i_ e) (q_ (.agg #[i_ e, .slice none 0 0]) ?_))))
 obtain ⟨V, ab, Y, ac⟩ := ra_ 44 0 O.wf ad [i_ e, .slice none 0 0] [i_ e, .slice none 0 0]
 refine ek_ ab (Za (aa _ _ ?_))
 refine Zg ?_
 refine Z3 (vs := [.agg #[i_ e, .slice none 0 0]]) (ZM (Eq.trans (b := aL_ 44 (pt_ b2 0) V) (by kernel_rfl) (ac.l_)) (rfl)) ?_
 obtain rfl := oi_ U
 exact ⟨rfl, (fs_ D ((f0_ D).extR O) Y (Z.fresh (Nat.le_refl _)))⟩
theorem ZeK {H : AH} {ad : Value} {aD : Fp} {ab : Int} {at_ : Int} {e : Int} {ag : List (Int × Int)} {r : Int × List (Int × Int)}
    (af : WF H) (am : Sq Zav 2 H ad ag aD) (aq : Zb0 ab at_ e ag = some r) :
    ACalls Tryz.prog 45 #[i_ ab, i_ at_, .agg #[i_ e, ad]] H fun v H' => ∃ (aw : Value) (al : Fp), v = .agg #[i_ r.1, aw] /\ FrS [] H H' /\ Ow Zav 2 H' aw r.2 al /\ Inn [] H al := by
 refine ab_ Tryz.func45 ?_
 unfold Zb0 at aq
 refine sq_ fun aJ => g_' ?_
 refine ZaG af [i_ e, ad] (Zs (rfl) (Zs (am.one1) (Z1))) (by kernel_rfl) fun ai aW Z aX av => ?_
 refine rk_ Z.wf [i_ 0, .slice none 0 0] fun az aT V aF ae => ?_
 refine Za (aJ _ _ (sq_ fun aG => g_' (q_ (i_ ab) (q_ (i_ at_) (q_ (.agg #[i_ ab, i_ at_]) ?_)))))
 refine Zbl (enc := Zav) (sz := 2) V.wf [(ab, at_)] 1 (by decide) (fun _ _ => rfl) (fun _ _ => rfl) rfl (by kernel_rfl) fun aY f21 aU Y aa ao => ?_
 obtain ⟨ah, ar, aj, rfl⟩ := ao.form
 refine q_ (.slice ah ar aj) (Za (aG _ _ (sq_ fun aH => g_' (q_ (.slice ah ar aj) (q_ (pt_ ai 1) ?_)))))
 have ax := ((av.ext V).ext Y)
 refine lr_ 42 1 (ad) ax ?_
 obtain ⟨aE, aN⟩ := Zb aq
 have aP := (((am.ext Z).ext V).ext Y)
 obtain ⟨aZ, aV, aC, aL, ac, ap, an⟩ := Ow.append (P := Tryz.prog) 16 Y.wf ao aP (fun _ _ => rfl) (at_ := #[42, 42]) rfl rfl (by kernel_rfl) (by kernel_rfl) (by decide) (by have := aE; first | omega | (simp only [List.length_cons, List.length_nil] at this ⊢; omega) | (simp at this ⊢; omega))
 obtain ⟨D, U, O, rfl⟩ := ap.form
 refine ZaN (.slice D U O) (by kernel_rfl) (aL) ?_
 refine q_ (.slice D U O) (Za (aH _ _ (sq_ fun aI => g_' (q_ (pt_ ai 0) ?_))))
 have aA := (aa.djn (av.ltF.le V.n))
 have aQ := (ax.frS ac aA)
 refine lr_ 3 0 (i_ e) aQ (q_ (.slice D U O) (q_ (.agg #[i_ e, .slice D U O]) ?_))
 have aR := ((ae.ext Y).frS ac (aa.djn ae.ltF))
 obtain ⟨ay, aM, ak, aO⟩ := ra_ 44 0 ac.wf aR [i_ e, .slice D U O] [i_ e, .slice D U O]
 refine ek_ aM (Za (aI _ _ ?_))
 refine Zg ?_
 refine Z3 (vs := [.agg #[i_ e, .slice D U O]]) (ZM (Eq.trans (b := aL_ 44 (pt_ az 0) ay) (by kernel_rfl) (aO.l_)) (rfl)) ?_
 have au := (t_ Z.n V.n)
 have aB := (an.dj (aa.djn ae.ltF) (ae.ltF.le Y.n))
 have aS := (ap.fr ak (Dj.symm aB))
 have aK := (t_ (t_ Z.n V.n) Y.n)
 obtain rfl := oi_ aN
 exact ⟨(.slice D U O), aC, rfl, (fs_ af (fs_ af ((((f0_ af).extR Z).extR V).extR Y) ac (aa.fresh au)) ak (aF.fresh Z.n)), aS, (Inn.trans (aa.fresh au) aK an)⟩
theorem ZdU {H : AH} {ad : Value} {bS : Fp} {Y : Int} {Arcs : List (Int × Int × Int)} {r : Int × List (Int × Int)}
    (U : WF H) (aL : Sq Zq 3 H ad Arcs bS) (bc : ZaA Y Arcs = some r) :
    ACalls Tryz.prog 58 #[.agg #[i_ Y, ad]] H fun v H' => ∃ (bz : Value) (a2 : Fp), v = .agg #[i_ r.1, bz] /\ FrS [] H H' /\ Ow Zav 2 H' bz r.2 a2 /\ Inn [] H a2 := by
 refine ab_ Tryz.func58 ?_
 unfold ZaA at bc
 refine sq_ fun ck => g_' ?_
 refine ZaG U [i_ Y, ad] (Zs (rfl) (Zs (aL.one1) (Z1))) (by kernel_rfl) fun ab dv V dy aN => ?_
 refine rk_ V.wf [i_ 0, .slice none 0 0] fun ac ax D aq ae => ?_
 refine Za (ck _ _ (sq_ fun ce => sq_ fun cf => ?_))
 obtain ⟨bp, bg, bv⟩ := bs_ bc
 refine ZC (fun α aU => Has α [(1, pt_ ab 0), (2, pt_ ac 0), (18, .bool bp)] /\ ax = aU) (fun _ aM => ?_) (fun α aU hM => ?_)
 ·refine g_' (q_ (pt_ ab 0) ?_)
  have aP := (aN.ext D)
  refine lr_ 3 0 (i_ Y) aP ?_
  refine sb_ (Y < 0) (fun aI => ?_) fun aI => ?_
  ·have c5 := Ze aI bg
   refine q_ (.bool true) (n_' (n_' (n_' (q_ (.bool true) (q_ (.bool true) (n_' (n_' (n_' (n_' (q_ (.bool true) (Za ?_)))))))))))
   obtain rfl := oi_ c5
   exact aM _ _ ⟨ha_, rfl⟩
  have bw := Zi aI bg
  refine q_ (.bool false) (q_ (pt_ ab 0) (lr_ 3 0 (i_ Y) aP ?_))
  refine sb_ (Y > 65536) (fun aJ => ?_) fun aJ => ?_
  ·have c6 := Ze aJ bw
   refine q_ (.bool true) (q_ (.bool true) (n_' (n_' (n_' (n_' (q_ (.bool true) (Za ?_)))))))
   obtain rfl := oi_ c6
   exact aM _ _ ⟨ha_, rfl⟩
  have c7 := Zi aJ bw
  refine q_ (.bool false) (q_ (.bool false) (q_ (pt_ ab 1) (lr_ 22 1 (ad) aP ?_)))
  have dk := ((aL.ext V).ext D)
  refine dk.ln_ 22 (q_ (.bool (decide ((Arcs.length : Int) > 262144))) (q_ (.bool (decide ((Arcs.length : Int) > 262144))) (Za ?_)))
  obtain rfl := oi_ c7
  exact aM _ _ ⟨ha_, rfl⟩
 obtain ⟨a_, rfl⟩ := hM
 obtain ⟨β, rfl⟩ := Zk a_
 clear a_
 refine cf _ _ ?_
 refine wb_ (bp) (fun aK => ?_) fun aK => ?_
 ·have c8 := Ze aK bv
  refine sq_ fun ch => g_' ?_
  obtain ⟨aS, b8, c9⟩ := bs_ c8
  refine ck_ (ZaW D.wf b8) ?_
  rintro _ du ⟨rfl, aA⟩
  have dm := (ae.frS aA dn_)
  obtain ⟨bI, cH, bP, c_⟩ := ra_ 44 0 aA.wf dm [i_ aS, .slice none 0 0] [i_ aS, .slice none 0 0]
  refine ek_ cH (Za (ch _ _ ?_))
  refine Zg (Zh ?_)
  refine Z3 (vs := [.agg #[i_ aS, .slice none 0 0]]) (ZM (Eq.trans (b := aL_ 44 (pt_ ac 0) bI) (by kernel_rfl) (c_.l_)) (rfl)) ?_
  obtain rfl := oi_ c9
  exact ⟨(.slice none 0 0), [], rfl, (fs_ U (fs_ U (((f0_ U).extR V).extR D) aA in_) bP (aq.fresh V.n)), (Ow.nil (by decide)), in_⟩
 have da := ZL aK bv
 refine Zf (ce _ _ (sq_ fun ci => sq_ fun cj => g_' (q_ (pt_ ab 1) ?_)))
 have bB := (aN.ext D)
 refine lr_ 22 1 (ad) bB ?_
 have bC := ((aL.ext V).ext D)
 refine bC.ln_ 22 (q_ (i_ 0) (Za (cj _ _ ?_)))
 obtain ⟨bE, bY, aO⟩ := bs_ da
 refine ZC (fun α aV => ∃ bq, bE = Sum.inr bq /\ Has α [(2, pt_ ac 0)] /\ FrS [] ax aV) (fun _ cm => ?_) (fun α aV hM => ?_)
 ·refine Zm ?_
  obtain ⟨bn, bV⟩ := Zu.1 bY
  refine ZJ (fun n α aW => ∃ (e : Int), ZR (fun zz_ => ZaE Y Arcs zz_) n e = some bE /\ Has α [(1, pt_ ab 0), (2, pt_ ac 0), (21, ad), (22, i_ (Arcs.length : Int)), (23, i_ e)] /\ FrS [] ax aW) bn ⟨0, bV, ha_, (fr_ D.wf)⟩ ?_
  rintro bn α aW ⟨e, bU, bb, O⟩ dx cn
  obtain ⟨cD, dn, rfl, al, ar⟩ := Zy bU
  obtain ⟨β, rfl⟩ := Zk bb
  clear bb
  replace al : ZaE Y Arcs e = some dn := al
  unfold ZaE at al
  refine sq_ fun co => g_' (q_ (.bool (decide (e < (Arcs.length : Int)))) (Za (co _ _ (sq_ fun cp => ?_))))
  refine wc_ (e < (Arcs.length : Int)) (fun ak => ?_) fun ak => ?_
  ·have db := Ze ak al
   refine Zf (cp _ _ (sq_ fun cq => Zm (sq_ fun cr => g_' (q_ (i_ e) ?_))))
   obtain ⟨a6, dc⟩ := Zb db
   have bD := (bC.fr O dn_)
   refine bD.ix_ 22 a6 ak (le_ 74 0 (.agg #[i_ ((gt Arcs e).1), i_ ((gt Arcs e).2.1), i_ ((gt Arcs e).2.2)]) bD a6 ak ?_)
   refine rk_ O.wf [i_ 0, i_ 0, i_ 0] fun af dw aa ag dd => ?_
   refine q_ (i_ e) ?_
   obtain ⟨aX, cI, Z, ah⟩ := ra_ 74 0 aa.wf dd [i_ ((gt Arcs e).1), i_ ((gt Arcs e).2.1), i_ ((gt Arcs e).2.2)] [i_ ((gt Arcs e).1), i_ ((gt Arcs e).2.1), i_ ((gt Arcs e).2.2)]
   refine ek_ cI (Za (cr _ _ (sq_ fun cu => sq_ fun cv => ?_)))
   obtain ⟨br, bh, bx⟩ := bs_ dc
   refine ZC (fun α aY => Has α [(1, pt_ ab 0), (2, pt_ ac 0), (3, i_ e), (4, pt_ af 0), (21, ad), (22, i_ (Arcs.length : Int)), (23, i_ e), (49, .bool br)] /\ aX = aY) (fun _ au => ?_) (fun α aY hM => ?_)
   ·refine g_' (q_ (pt_ af 0) (lr_ 3 0 (i_ ((gt Arcs e).1)) ah ?_))
    refine sb_ (((gt Arcs e).1) < 0) (fun aC => ?_) fun aC => ?_
    ·have cJ := Ze aC bh
     refine q_ (.bool true) (n_' (n_' (n_' (n_' (n_' (q_ (.bool true) (q_ (.bool true) (n_' (n_' (n_' (q_ (.bool true) (q_ (.bool true) (n_' (n_' (n_' (n_' (n_' (q_ (.bool true) (Za ?_)))))))))))))))))))
     obtain rfl := oi_ cJ
     exact au _ _ ⟨ha_, rfl⟩
    have bs := Zi aC bh
    refine q_ (.bool false) (q_ (pt_ af 0) (lr_ 3 0 (i_ ((gt Arcs e).1)) ah (q_ (pt_ ab 0) ?_)))
    have cw := (t_ D.n O.n)
    have bJ := (ag.djn (aN.ltF.le cw))
    have bA := (((bB.frS O dn_).ext aa).frS Z bJ)
    refine lr_ 3 0 (i_ Y) bA ?_
    refine sb_ (((gt Arcs e).1) ≥ Y) (fun aD => ?_) fun aD => ?_
    ·have cK := Ze aD bs
     refine q_ (.bool true) (q_ (.bool true) (n_' (n_' (n_' (q_ (.bool true) (q_ (.bool true) (n_' (n_' (n_' (n_' (n_' (q_ (.bool true) (Za ?_)))))))))))))
     obtain rfl := oi_ cK
     exact au _ _ ⟨ha_, rfl⟩
    have bt := Zi aD bs
    refine q_ (.bool false) (q_ (.bool false) (q_ (pt_ af 1) (lr_ 3 1 (i_ ((gt Arcs e).2.1)) ah ?_)))
    refine sb_ (((gt Arcs e).2.1) < 0) (fun aE => ?_) fun aE => ?_
    ·have cL := Ze aE bt
     refine q_ (.bool true) (q_ (.bool true) (n_' (n_' (n_' (n_' (n_' (q_ (.bool true) (Za ?_))))))))
     obtain rfl := oi_ cL
     exact au _ _ ⟨ha_, rfl⟩
    have cM := Zi aE bt
    refine q_ (.bool false) (q_ (.bool false) (q_ (pt_ af 1) (lr_ 3 1 (i_ ((gt Arcs e).2.1)) ah (q_ (pt_ ab 0) (lr_ 3 0 (i_ Y) bA (q_ (.bool (decide (((gt Arcs e).2.1) ≥ Y))) (q_ (.bool (decide (((gt Arcs e).2.1) ≥ Y))) (Za ?_))))))))
    obtain rfl := oi_ cM
    exact au _ _ ⟨ha_, rfl⟩
   obtain ⟨a7, rfl⟩ := hM
   obtain ⟨β, rfl⟩ := Zk a7
   clear a7
   refine cv _ _ ?_
   refine wb_ (br) (fun aF => ?_) fun aF => ?_
   ·have cN := Ze aF bx
    refine sq_ fun ca => g_' (q_ (i_ e) ?_)
    obtain ⟨dD, bZ, cO⟩ := bs_ cN
    refine ck_ (ZaW Z.wf bZ) ?_
    rintro _ dp ⟨rfl, ai⟩
    obtain ⟨aQ, b5, cP⟩ := bs_ cO
    refine ck_ (ZeK ai.wf (Sq.nil (enc := Zav) (sz := 2) (by decide)) b5) ?_
    rintro _ dq ⟨dz, bQ, rfl, ay, bl, bi⟩
    obtain ⟨am, av, ao, rfl⟩ := bl.form
    have bK := (ag.djn (ae.ltF.le O.n))
    have de := (((((ae.frS O dn_).ext aa).frS Z bK).frS ai dn_).frS ay dn_)
    obtain ⟨bF, cE, aZ, cQ⟩ := ra_ 44 0 ay.wf de [i_ aQ.1, .slice am av ao] [i_ aQ.1, .slice am av ao]
    refine ek_ cE (Za (ca _ _ ?_))
    refine Zg (Zh (ZN (Zh (Zh (ZN (Zh (Zh ?_)))))))
    obtain ⟨dB, bd, b9⟩ := map_some cP
    subst b9
    obtain rfl := Zx ar
    have bW := elim_inl aO
    rw [bW] at bd
    refine Z3 (vs := [.agg #[i_ aQ.1, .slice am av ao]]) (ZM (Eq.trans (b := aL_ 44 (pt_ ac 0) bF) (by kernel_rfl) (cQ.l_)) (rfl)) ?_
    have cx := (t_ (t_ V.n D.n) O.n)
    have cy := (t_ (t_ (t_ O.n aa.n) Z.n) ai.n)
    have bL := (bi.djn (ae.ltF.le cy))
    have df := (bl.fr aZ (Dj.symm bL))
    have cz := (t_ (t_ (t_ (t_ (t_ V.n D.n) O.n) aa.n) Z.n) ai.n)
    obtain rfl := oi_ bd
    exact ⟨(.slice am av ao), bQ, rfl, (fs_ U (fs_ U (fs_ U (fs_ U ((fs_ U (((f0_ U).extR V).extR D) O in_).extR aa) Z (ag.fresh cx)) ai in_) ay in_) aZ (aq.fresh V.n)), df, (bi.fresh cz)⟩
   have cR := ZL aF bx
   refine Zf (cu _ _ (sq_ fun cc => ?_))
   obtain ⟨bo, bf, bu⟩ := bs_ cR
   refine ZC (fun α aT => Has α [(1, pt_ ab 0), (2, pt_ ac 0), (3, i_ e), (21, ad), (22, i_ (Arcs.length : Int)), (23, i_ e), (60, .bool bo)] /\ aX = aT) (fun _ bk => ?_) (fun α aT hM => ?_)
   ·refine g_' (q_ (pt_ af 2) (lr_ 3 2 (i_ ((gt Arcs e).2.2)) ah ?_))
    refine sb_ (((gt Arcs e).2.2) < 0) (fun aG => ?_) fun aG => ?_
    ·have cS := Ze aG bf
     refine q_ (.bool true) (n_' (n_' (n_' (q_ (.bool true) (Za ?_)))))
     obtain rfl := oi_ cS
     exact bk _ _ ⟨ha_, rfl⟩
    have cT := Zi aG bf
    refine q_ (.bool false) (q_ (pt_ af 2) (lr_ 3 2 (i_ ((gt Arcs e).2.2)) ah (q_ (.bool (decide (((gt Arcs e).2.2) > 2147483647))) (q_ (.bool (decide (((gt Arcs e).2.2) > 2147483647))) (Za ?_)))))
    obtain rfl := oi_ cT
    exact bk _ _ ⟨ha_, rfl⟩
   obtain ⟨a8, rfl⟩ := hM
   obtain ⟨β, rfl⟩ := Zk a8
   clear a8
   refine cc _ _ ?_
   refine wb_ (bo) (fun aH => ?_) fun aH => ?_
   ·have cU := Ze aH bu
    refine sq_ fun cd => g_' (q_ (i_ e) ?_)
    obtain ⟨dE, b6, cV⟩ := bs_ cU
    refine ck_ (ZaW Z.wf b6) ?_
    rintro _ dr ⟨rfl, aj⟩
    obtain ⟨aR, b7, cW⟩ := bs_ cV
    refine ck_ (ZeK aj.wf (Sq.nil (enc := Zav) (sz := 2) (by decide)) b7) ?_
    rintro _ dt ⟨dA, bR, rfl, az, bm, bj⟩
    obtain ⟨an, aw, ap, rfl⟩ := bm.form
    have bM := (ag.djn (ae.ltF.le O.n))
    have dg := (((((ae.frS O dn_).ext aa).frS Z bM).frS aj dn_).frS az dn_)
    obtain ⟨bG, cF, a1, cX⟩ := ra_ 44 0 az.wf dg [i_ aR.1, .slice an aw ap] [i_ aR.1, .slice an aw ap]
    refine ek_ cF (Za (cd _ _ ?_))
    refine Zg (ZN (Zh (Zh (ZN (Zh (Zh ?_))))))
    obtain ⟨dC, be, b_⟩ := map_some cW
    subst b_
    obtain rfl := Zx ar
    have bX := elim_inl aO
    rw [bX] at be
    refine Z3 (vs := [.agg #[i_ aR.1, .slice an aw ap]]) (ZM (Eq.trans (b := aL_ 44 (pt_ ac 0) bG) (by kernel_rfl) (cX.l_)) (rfl)) ?_
    have cA := (t_ (t_ V.n D.n) O.n)
    have cB := (t_ (t_ (t_ O.n aa.n) Z.n) aj.n)
    have bN := (bj.djn (ae.ltF.le cB))
    have dh := (bm.fr a1 (Dj.symm bN))
    have cC := (t_ (t_ (t_ (t_ (t_ V.n D.n) O.n) aa.n) Z.n) aj.n)
    obtain rfl := oi_ be
    exact ⟨(.slice an aw ap), bR, rfl, (fs_ U (fs_ U (fs_ U (fs_ U ((fs_ U (((f0_ U).extR V).extR D) O in_).extR aa) Z (ag.fresh cA)) aj in_) az in_) a1 (aq.fresh V.n)), dh, (bj.fresh cC)⟩
   have cY := ZL aH bu
   refine Zf (cq _ _ (g_' ?_))
   obtain ⟨bT, cZ⟩ := Zb cY
   refine w_' ((e + 1)) (Zn (by have := bT; omega)) (q_ (i_ (e + 1)) (Za ?_))
   obtain rfl := oi_ cZ
   exact cn cD _ _ lt_ ⟨(e + 1), ar, ha_, (fs_ D.wf ((fs_ D.wf (fr_ D.wf) O in_).extR aa) Z (ag.fresh O.n))⟩
  have c0 := Zi ak al
  refine ZK (Zj (Zj (ZV ?_)))
  obtain rfl := oi_ c0
  obtain rfl := Zx ar
  exact cm _ _ ⟨_, rfl, ha_, (fs_ D.wf (fr_ D.wf) O in_)⟩
 obtain ⟨bq, rfl, ba, aB⟩ := hM
 have c3 := elim_inr aO
 obtain ⟨β, rfl⟩ := Zk ba
 clear ba
 refine ci _ _ (sq_ fun cg => g_' (q_ (.agg #[i_ 0, .slice none 0 0]) ?_))
 have di := (ae.frS aB dn_)
 obtain ⟨bH, cG, bO, c4⟩ := ra_ 44 0 aB.wf di [i_ 0, .slice none 0 0] [i_ 0, .slice none 0 0]
 refine ek_ cG (Za (cg _ _ ?_))
 refine Zg ?_
 refine Z3 (vs := [.agg #[i_ 0, .slice none 0 0]]) (ZM (Eq.trans (b := aL_ 44 (pt_ ac 0) bH) (by kernel_rfl) (c4.l_)) (rfl)) ?_
 obtain rfl := oi_ c3
 exact ⟨(.slice none 0 0), [], rfl, (fs_ U (fs_ U (((f0_ U).extR V).extR D) aB in_) bO (aq.fresh V.n)), (Ow.nil (by decide)), in_⟩
theorem ZaH {H : AH} {O : Value} {ad : Fp} {D : Int} {e : List (Int × Int)} {r : Bool}
    (Z : WF H) (aa : Sq Zav 2 H O e ad) (Y : ZS D e = some r) :
    ACalls Tryz.prog 38 #[.agg #[i_ D, O]] H fun v H' => v = .bool r /\ FrS [] H H' := by
 refine ab_ Tryz.func38 ?_
 unfold ZS at Y
 refine sq_ fun k1 => g_' ?_
 refine ZaG Z [i_ D, O] (Zs (rfl) (Zs (aa.one1) (Z1))) (by kernel_rfl) fun b2 ah U ai ac => ?_
 refine q_ (.bool false) (Za (k1 _ _ (sq_ fun ab => g_' (q_ (pt_ b2 0) (lr_ 3 0 (i_ D) ac ?_)))))
 refine s_bn (D = 0) (by kernel_rfl) (fun V => ?_) (fun V => ?_)
 ·have ae := Ze V Y
  refine q_ (.bool false) (q_ (pt_ b2 1) (lr_ 42 1 (O) ac ?_))
  have ag := (aa.ext U)
  refine ag.ln_ 42 (q_ (.bool (decide ((e.length : Int) > 0))) (q_ (.bool (decide ((e.length : Int) > 0))) (q_ (.bool (decide ((e.length : Int) > 0))) (Za (ab _ _ ?_)))))
  refine Zg ?_
  refine br_ [.bool (decide ((e.length : Int) > 0))] ?_
  obtain rfl := oi_ ae
  exact ⟨rfl, ((f0_ Z).extR U)⟩
 have af := Zi V Y
 refine q_ (.bool true) (n_' (n_' (n_' (n_' (q_ (.bool true) (q_ (.bool true) (Za (ab _ _ ?_))))))))
 refine Zg ?_
 refine br_ [.bool true] ?_
 obtain rfl := oi_ af
 exact ⟨rfl, ((f0_ Z).extR U)⟩
theorem ZgC {H : AH} {ab : Value} {aw : Fp} {Y : Int} {Arcs : List (Int × Int × Int)} {most : Int} {r : Bool}
    (e : WF H) (ag : Sq Zq 3 H ab Arcs aw) (am : Zci Y Arcs most = some r) :
    ACalls Tryz.prog 34 #[.agg #[i_ Y, ab], i_ most] H fun v H' => v = .bool r /\ FrS [] H H' := by
 refine ab_ Tryz.func34 ?_
 unfold Zci at am
 refine sq_ fun k1 => g_' ?_
 refine ZaG e [i_ Y, ab] (Zs (rfl) (Zs (ag.one1) (Z1))) (by kernel_rfl) fun b2 aQ O aT ak => ?_
 refine q_ (.bool false) (Za (k1 _ _ (sq_ fun az => g_' (lr_ 24 0 (.agg #[i_ Y, ab]) ak ?_))))
 have ar := (ag.ext O)
 obtain ⟨al, ax, aD⟩ := bs_ am
 refine ck_ (ZdU O.wf ar ax) ?_
 rintro _ aN ⟨aV, f14, rfl, D, ai, aU⟩
 obtain ⟨ad, aj, ae, rfl⟩ := ai.form
 refine rk_ D.wf [i_ 0, .slice none 0 0] fun aS aO U Z aE => ?_
 have aJ := (ai.ext U)
 obtain ⟨aP, aC, V, aF⟩ := ra_ 44 0 U.wf aE [i_ al.1, .slice ad aj ae] [i_ al.1, .slice ad aj ae]
 refine ek_ aC (Za (az _ _ (sq_ fun ah => g_' (lr_ 44 0 (.agg #[i_ al.1, .slice ad aj ae]) aF ?_))))
 have aK := (aJ.fr V (Z.djn ai.lt))
 obtain ⟨aM, ay, ao⟩ := bs_ aD
 refine ck_ (ZaH V.wf aK.sq ay) ?_
 rintro _ aR ⟨rfl, aa⟩
 by_cases ac : aM = true
 ·have aG := Ze ac ao
  rw [ac]
  refine q_ (.bool false) (q_ (.bool false) (n_' (n_' (n_' (n_' (q_ (.bool false) (q_ (.bool false) (n_' (n_' (n_' (n_' (q_ (.bool false) (q_ (.bool false) (Za (ah _ _ ?_)))))))))))))))
  refine Zg ?_
  refine br_ [.bool false] ?_
  have aA := (t_ O.n D.n)
  obtain rfl := oi_ aG
  exact ⟨rfl, (fs_ e (fs_ e ((fs_ e ((f0_ e).extR O) D in_).extR U) V (Z.fresh aA)) aa in_)⟩
 have ap := Zi ac ao
 rw [nb ac]
 refine q_ (.bool true) (q_ (.bool true) (q_ (pt_ b2 0) ?_))
 have au := (Z.djn (ak.ltF.le D.n))
 have aq := ((((ak.frS D dn_).ext U).frS V au).frS aa dn_)
 refine lr_ 3 0 (i_ Y) aq (q_ (i_ most) ?_)
 refine sb_ (Y ≤ most) (fun af => ?_) fun af => ?_
 ·have aH := Ze af ap
  refine q_ (.bool true) (q_ (.bool true) (q_ (pt_ b2 1) (lr_ 22 1 (ab) aq ?_)))
  have an := (t_ O.n D.n)
  have av := (Z.djn (ag.lt.le an))
  have aL := ((((ar.fr D dn_).ext U).fr V av).fr aa dn_)
  refine aL.ln_ 22 (q_ (.bool (decide ((Arcs.length : Int) ≤ 2000))) (q_ (.bool (decide ((Arcs.length : Int) ≤ 2000))) (q_ (.bool (decide ((Arcs.length : Int) ≤ 2000))) (Za (ah _ _ ?_)))))
  refine Zg ?_
  refine br_ [.bool (decide ((Arcs.length : Int) ≤ 2000))] ?_
  obtain rfl := oi_ aH
  exact ⟨rfl, (fs_ e (fs_ e ((fs_ e ((f0_ e).extR O) D in_).extR U) V (Z.fresh an)) aa in_)⟩
 have aI := Zi af ap
 refine q_ (.bool false) (q_ (.bool false) (n_' (n_' (n_' (n_' (q_ (.bool false) (q_ (.bool false) (Za (ah _ _ ?_)))))))))
 refine Zg ?_
 refine br_ [.bool false] ?_
 have aB := (t_ O.n D.n)
 obtain rfl := oi_ aI
 exact ⟨rfl, (fs_ e (fs_ e ((fs_ e ((f0_ e).extR O) D in_).extR U) V (Z.fresh aB)) aa in_)⟩
theorem Zgh {H : AH} {O : Int} {e : Int} {aa : Int} {U : Int} {D : Int} {ab : Int} {r : Bool}
    (Z : WF H) (af : Zb5 O e aa U D ab = some r) :
    ACalls Tryz.prog 118 #[.agg #[i_ O, i_ e, i_ aa], .agg #[i_ U, i_ D, i_ ab]] H fun v H' => v = .bool r /\ FrS [] H H' := by
 refine ab_ Tryz.func118 ?_
 unfold Zb5 at af
 refine sq_ fun k1 => g_' ?_
 refine rl_ Z [i_ O, i_ e, i_ aa] fun b2 ao Y ar an => ?_
 refine rl_ Y.wf [i_ U, i_ D, i_ ab] fun ac ap V aq ah => ?_
 refine q_ (.bool false) (Za (k1 _ _ (sq_ fun ag => g_' (q_ (pt_ b2 0) ?_))))
 have ai := (an.ext V)
 refine lr_ 3 0 (i_ O) ai (q_ (pt_ ac 0) (lr_ 3 0 (i_ U) ah ?_))
 refine sb_ (O < U) (fun ad => ?_) fun ad => ?_
 ·have ak := Ze ad af
  refine q_ (.bool true) (n_' (n_' (n_' (n_' (n_' (n_' (n_' (n_' (n_' (n_' (n_' (n_' (q_ (.bool true) (q_ (.bool true) (Za (ag _ _ ?_))))))))))))))))
  refine Zg ?_
  refine br_ [.bool true] ?_
  obtain rfl := oi_ ak
  exact ⟨rfl, (((f0_ Z).extR Y).extR V)⟩
 have aj := Zi ad af
 refine q_ (.bool false) (q_ (pt_ b2 0) (lr_ 3 0 (i_ O) ai (q_ (pt_ ac 0) (lr_ 3 0 (i_ U) ah ?_))))
 refine sb_ (O = U) (fun ae => ?_) fun ae => ?_
 ·have al := Ze ae aj
  refine q_ (.bool true) (q_ (pt_ b2 1) (lr_ 3 1 (i_ e) ai (q_ (pt_ ac 1) (lr_ 3 1 (i_ D) ah (q_ (.bool (decide (e < D))) (q_ (.bool (decide (e < D))) (q_ (.bool (decide (e < D))) (q_ (.bool (decide (e < D))) (Za (ag _ _ ?_))))))))))
  refine Zg ?_
  refine br_ [.bool (decide (e < D))] ?_
  obtain rfl := oi_ al
  exact ⟨rfl, (((f0_ Z).extR Y).extR V)⟩
 have am := Zi ae aj
 refine q_ (.bool false) (n_' (n_' (n_' (n_' (n_' (q_ (.bool false) (q_ (.bool false) (q_ (.bool false) (Za (ag _ _ ?_))))))))))
 refine Zg ?_
 refine br_ [.bool false] ?_
 obtain rfl := oi_ am
 exact ⟨rfl, (((f0_ Z).extR Y).extR V)⟩
theorem ZgF {H : AH} {D : Value} {bR : Fp} {l : List (Int × Int × Int)} {ab : Int} {V : Int} {U : Int} {r : List (Int × Int × Int)}
    (ac : WF H) (ar : Sq Zq 3 H D l bR) (bk : Zcm l ab V U = some r) :
    ACalls Tryz.prog 99 #[D, .agg #[i_ ab, i_ V, i_ U]] H fun v H' => ∃ (bz : Value) (a6 : Fp), v = bz /\ FrS [] H H' /\ Ow Zq 3 H' bz r a6 /\ Inn [] H a6 := by
 refine ab_ Tryz.func99 ?_
 unfold Zcm at bk
 refine sq_ fun ck => g_' ?_
 refine rl_ ac [i_ ab, i_ V, i_ U] fun af aZ O a8 aw => ?_
 refine q_ (.slice none 0 0) (Za (ck _ _ (sq_ fun ca => g_' (q_ (i_ 0) (Za (ca _ _ (sq_ fun cd => ?_)))))))
 obtain ⟨e, b8, cN⟩ := bs_ bk
 refine ZC (fun α aX => Has α [(0, D), (3, pt_ af 0), (5, i_ e)] /\ FrS [] aZ aX) (fun _ bp => ?_) (fun α aX hM => ?_)
 ·refine Zm ?_
  obtain ⟨bt, b7⟩ := Zu.1 b8
  refine ZJ (fun n α aY => ∃ (aa : Int), ZR (fun zz_ => ZbD l ab V U zz_) n aa = some e /\ Has α [(0, D), (3, pt_ af 0), (5, i_ aa)] /\ FrS [] aZ aY) bt ⟨0, b7, ha_, (fr_ O.wf)⟩ ?_
  rintro bt α aY ⟨aa, b6, bc, ak⟩ dk cg
  obtain ⟨cv, da, rfl, au, aS⟩ := Zy b6
  obtain ⟨β, rfl⟩ := Zk bc
  clear bc
  replace au : ZbD l ab V U aa = some da := au
  unfold ZbD at au
  refine sq_ fun ch => sq_ fun bq => ?_
  refine ZQ [0, 1, 2, 3, 4, 5, 6, 7, 8, 9, 10, 11] (by kernel_rfl) ?_
  refine e_' (i_ aa) (e_' (D) ?_)
  have aW := ((ar.ext O).fr ak dn_)
  refine aW.mn_ 22 ?_
  refine db_ (aa < (l.length : Int)) (fun aq => ?_) fun aq => ?_
  ·have cQ := Ze aq au
   refine e_' (.bool true) (e_' (D) (e_' (i_ aa) ?_))
   obtain ⟨a7, cR⟩ := Zb cQ
   refine aW.mx_ 22 a7 aq (me_ 74 0 (.agg #[i_ ((gt l aa).1), i_ ((gt l aa).2.1), i_ ((gt l aa).2.2)]) aW a7 aq ?_)
   have c_ := (aw.frS ak dn_)
   refine mr_ 74 0 (.agg #[i_ ab, i_ V, i_ U]) c_ ?_
   obtain ⟨bC, b9, bv⟩ := bs_ cR
   refine dk_ (Zgh ak.wf b9) ?_
   rintro _ di ⟨rfl, a2⟩
   refine ⟨ZF, ?_⟩
   refine e_' (.bool bC) ?_
   refine ZI ?_
   refine bq _ _ ?_
   refine wb_ (bC) (fun aO => ?_) fun aO => ?_
   ·have cS := Ze aO bv
    refine Zf (ch _ _ (Zm (g_' (q_ (i_ aa) ?_))))
    obtain ⟨bX, cT⟩ := Zb cS
    refine w_' ((aa + 1)) (Zn (by have := bX; omega)) (q_ (i_ (aa + 1)) (Za ?_))
    obtain rfl := oi_ cT
    exact cg cv _ _ lt_ ⟨(aa + 1), aS, ha_, (fs_ O.wf (fs_ O.wf (fr_ O.wf) ak in_) a2 in_)⟩
   have cU := ZL aO bv
   refine ZK (Zj (Zj (ZV ?_)))
   obtain rfl := oi_ cU
   obtain rfl := Zx aS
   exact bp _ _ ⟨ha_, (fs_ O.wf (fs_ O.wf (fr_ O.wf) ak in_) a2 in_)⟩
  have cV := Zi aq au
  refine e_' (.bool false) (j_' (j_' (j_' (j_' (j_' (j_' (e_' (.bool false) ?_)))))))
  refine ZI ?_
  refine bq _ _ ?_
  refine wb_ false (fun h => by cases h) fun _ => ?_
  refine ZK (Zj (Zj (ZV ?_)))
  obtain rfl := oi_ cV
  obtain rfl := Zx aS
  exact bp _ _ ⟨ha_, (fs_ O.wf (fr_ O.wf) ak in_)⟩
 obtain ⟨bb, Y⟩ := hM
 obtain ⟨β, rfl⟩ := Zk bb
 clear bb
 refine cd _ _ (sq_ fun ci => g_' (q_ (.slice none 0 0) (Za (ci _ _ (sq_ fun cj => g_' (q_ (.slice none 0 0) (q_ (D) (q_ (i_ e) ?_))))))))
 obtain ⟨am, cW⟩ := Zb cN
 have aI := ((ar.ext O).fr Y dn_)
 obtain ⟨dJ, cE, bn⟩ := Sq.cut (P := Tryz.prog) aI (t := 22) (by kernel_rfl) (lo := none) (hi := (some (i_ e))) (l := 0) (r := e.toNat) (rfl) (ZcH _ (by have := am; omega)) (by have := am; omega) (by have := am; omega)
 obtain ⟨bG, cw, bJ, rfl⟩ := bn.form
 refine Zbg (.slice bG cw bJ) (by kernel_rfl) cE ?_
 obtain ⟨bY, cX⟩ := Zb cW
 obtain ⟨dK, bD, dw, cF, Z, aR, ae⟩ := Ow.append (P := Tryz.prog) 24 Y.wf (Ow.nil (enc := Zq) (sz := 3) (by decide)) bn (fun _ _ => rfl) (at_ := #[22, 22]) rfl rfl (by kernel_rfl) (by kernel_rfl) (by decide) (by have := bY; first | omega | (simp only [List.length_cons, List.length_nil] at this ⊢; omega) | (simp at this ⊢; omega))
 obtain ⟨ao, av, ap, rfl⟩ := aR.form
 refine ZaN (.slice ao av ap) (by kernel_rfl) (cF) ?_
 refine q_ (.slice ao av ap) (Za (cj _ _ (sq_ fun cm => sq_ fun cn => ?_)))
 obtain ⟨bu, bo, bw⟩ := bs_ cX
 refine ZC (fun α a1 => Has α [(0, D), (3, pt_ af 0), (5, i_ e), (6, .slice ao av ap), (49, .bool bu)] /\ bD = a1) (fun _ aT => ?_) (fun α a1 hM => ?_)
 ·refine ZQ [0, 1, 2, 3, 4, 5, 6, 7, 8, 9, 10, 11, 12, 13, 14, 15, 16, 17, 18, 19, 20, 21, 22, 23] (by kernel_rfl) ?_
  refine e_' (i_ e) (e_' (D) ?_)
  have ag := (aI.fr Z dn_)
  refine ag.mn_ 22 ?_
  refine db_ (e < (l.length : Int)) (fun ad => ?_) fun ad => ?_
  ·have cY := Ze ad bo
   refine e_' (.bool true) (e_' (D) (e_' (i_ e) ?_))
   obtain ⟨an, bx⟩ := Zb cY
   refine ag.mx_ 22 an ad (m_' (elp D 3 e.toNat 0) (Zw Tryz.prog 74 (elp D 3 e.toNat 0) 0) (Sq.fldq (d := 0) ag an ad (by kernel_rfl)) (me_ 3 0 (i_ ((gt l e).1)) ag an ad (e_' (pt_ af 0) ?_)))
   have bA := ((aw.frS Y dn_).frS Z dn_)
   refine mr_ 3 0 (i_ ab) bA ?_
   refine db_ (((gt l e).1) = ab) (fun aP => ?_) fun aP => ?_
   ·have cZ := Ze aP bx
    refine e_' (.bool true) (e_' (.bool true) (e_' (D) (e_' (i_ e) (ag.mx_ 22 an ad (m_' (elp D 3 e.toNat 1) (Zw Tryz.prog 74 (elp D 3 e.toNat 0) 1) (Sq.fldq (d := 1) ag an ad (by kernel_rfl)) (me_ 3 1 (i_ ((gt l e).2.1)) ag an ad (e_' (pt_ af 1) (mr_ 3 1 (i_ V) bA (e_' (.bool (decide (((gt l e).2.1) = V))) (e_' (.bool (decide (((gt l e).2.1) = V))) ?_))))))))))
    refine ZI ?_
    obtain rfl := oi_ cZ
    exact aT _ _ ⟨ha_, rfl⟩
   have c0 := Zi aP bx
   refine e_' (.bool false) (e_' (.bool false) (j_' (j_' (j_' (j_' (j_' (j_' (j_' (j_' (e_' (.bool false) ?_))))))))))
   refine ZI ?_
   obtain rfl := oi_ c0
   exact aT _ _ ⟨ha_, rfl⟩
  have c3 := Zi ad bo
  refine e_' (.bool false) (j_' (j_' (j_' (j_' (j_' (j_' (j_' (j_' (e_' (.bool false) (e_' (.bool false) (j_' (j_' (j_' (j_' (j_' (j_' (j_' (j_' (e_' (.bool false) ?_)))))))))))))))))))
  refine ZI ?_
  obtain rfl := oi_ c3
  exact aT _ _ ⟨ha_, rfl⟩
 obtain ⟨bd, rfl⟩ := hM
 obtain ⟨β, rfl⟩ := Zk bd
 clear bd
 refine cn _ _ ?_
 refine wb_ (bu) (fun aQ => ?_) fun aQ => ?_
 ·have c4 := Ze aQ bw
  refine sq_ fun co => ?_
  refine ZQ [0, 1, 2, 3, 4, 5, 6, 7, 8, 9] (by kernel_rfl) ?_
  refine e_' (pt_ af 2) ?_
  have bB := ((aw.frS Y dn_).frS Z dn_)
  refine mr_ 3 2 (i_ U) bB (e_' (D) (e_' (i_ e) ?_))
  obtain ⟨al, cG⟩ := Zb c4
  have aH := (aI.fr Z dn_)
  refine aH.mx_ 22 al.1 al.2 (m_' (elp D 3 e.toNat 2) (Zw Tryz.prog 74 (elp D 3 e.toNat 0) 2) (Sq.fldq (d := 2) aH al.1 al.2 (by kernel_rfl)) (me_ 3 2 (i_ ((gt l e).2.2)) aH al.1 al.2 (m_' (i_ (min U ((gt l e).2.2))) (Zgp Tryz.prog [i_ U, i_ ((gt l e).2.2)]) (Zhu _ _) (e_' (pt_ af 2) ?_))))
  obtain ⟨db, cx, ah, cH⟩ := rb_ 3 2 Z.wf bB (i_ (min U ((gt l e).2.2))) [i_ ab, i_ V, i_ (min U ((gt l e).2.2))]
  refine fk_ cx (ZF) ?_
  refine ZI ?_
  refine co _ _ (sq_ fun b_ => g_' (q_ (.slice ao av ap) (lr_ 74 0 (.agg #[i_ ab, i_ V, i_ (min U ((gt l e).2.2))]) cH ?_)))
  refine Zbl (enc := Zq) (sz := 3) ah.wf [(ab, V, (min U ((gt l e).2.2)))] 1 (by decide) (fun _ _ => rfl) (fun _ _ => rfl) rfl (by kernel_rfl) fun dB dr dc ai dx be => ?_
  obtain ⟨dm, dz, dp, rfl⟩ := be.form
  have bK := (ae.djn (aw.ltF.le Y.n))
  have c5 := ((aR.fr ah (Dj.symm bK)).ext ai)
  obtain ⟨bS, cI⟩ := Zb cG
  obtain ⟨dC, dd, dt, cy, aB, bf, a_⟩ := Ow.append (P := Tryz.prog) 24 ai.wf c5 be.sq (fun _ _ => rfl) (at_ := #[22, 22]) rfl rfl (by kernel_rfl) (by kernel_rfl) (by decide) (by have := bS; first | omega | (simp only [List.length_cons, List.length_nil] at this ⊢; omega) | (simp at this ⊢; omega))
  obtain ⟨aJ, aU, aL, rfl⟩ := bf.form
  refine ZaN (.slice aJ aU aL) (by kernel_rfl) (cy) ?_
  refine q_ (.slice aJ aU aL) (Za (b_ _ _ (sq_ fun cc => g_' (q_ (.slice aJ aU aL) (q_ (D) (q_ (i_ e) ?_))))))
  obtain ⟨bT, cJ⟩ := Zb cI
  refine w_' ((e + 1)) (Zn (by have := bT; omega)) ?_
  obtain ⟨aN, cK⟩ := Zb cJ
  have aD := (t_ O.n Y.n)
  have bL := (ae.djn (ar.lt.le aD))
  have c6 := (((aH.fr ah (a8.djn ar.lt)).ext ai).fr aB bL)
  obtain ⟨dD, cz, bl⟩ := Sq.cut (P := Tryz.prog) c6 (t := 22) (by kernel_rfl) (lo := (some (i_ (e + 1)))) (hi := none) (l := (e + 1).toNat) (r := l.length) (ZcH _ (by have := aN; omega)) (rfl) (by have := aN; omega) (by have := aN; omega)
  obtain ⟨bE, cp, bH, rfl⟩ := bl.form
  refine Zbg (.slice bE cp bH) (by kernel_rfl) cz ?_
  obtain ⟨bU, cL⟩ := Zb cK
  obtain ⟨dE, de, bP, cA, bN, bg, bZ⟩ := Ow.append (P := Tryz.prog) 24 aB.wf bf bl (fun _ _ => rfl) (at_ := #[22, 22]) rfl rfl (by kernel_rfl) (by kernel_rfl) (by decide) (by have := bU; first | omega | (simp only [List.length_cons, List.length_nil] at this ⊢; omega) | (simp at this ⊢; omega))
  obtain ⟨ax, aE, az, rfl⟩ := bg.form
  refine ZaN (.slice ax aE az) (by kernel_rfl) (cA) ?_
  refine q_ (.slice ax aE az) (Za (cc _ _ ?_))
  refine Zg (Zh ?_)
  refine br_ [.slice ax aE az] ?_
  have br := (t_ (t_ (t_ (t_ O.n Y.n) Z.n) ah.n) ai.n)
  have cq := (t_ (t_ (t_ (t_ (t_ O.n Y.n) Z.n) ah.n) ai.n) aB.n)
  obtain rfl := oi_ cL
  exact ⟨(.slice ax aE az), bP, rfl, (fs_ ac (fs_ ac ((fs_ ac (fs_ ac (fs_ ac ((f0_ ac).extR O) Y in_) Z in_) ah (a8.fresh (Nat.le_refl _))).extR ai) aB (ae.fresh aD)) bN (Inn.trans (ae.fresh aD) br a_)), bg, (Inn.trans (Inn.trans (ae.fresh aD) br a_) cq bZ)⟩
 have cM := ZL aQ bw
 refine Zf (cm _ _ (sq_ fun ce => g_' (q_ (.slice ao av ap) ?_)))
 have c7 := ((aw.frS Y dn_).frS Z dn_)
 refine lr_ 74 0 (.agg #[i_ ab, i_ V, i_ U]) c7 ?_
 refine Zbl (enc := Zq) (sz := 3) Z.wf [(ab, V, U)] 1 (by decide) (fun _ _ => rfl) (fun _ _ => rfl) rfl (by kernel_rfl) fun dF du df aj dy bh => ?_
 obtain ⟨dn, dA, dq, rfl⟩ := bh.form
 have c8 := (aR.ext aj)
 obtain ⟨bV, cO⟩ := Zb cM
 obtain ⟨dG, dg, dv, cB, aC, bi, ba⟩ := Ow.append (P := Tryz.prog) 24 aj.wf c8 bh.sq (fun _ _ => rfl) (at_ := #[22, 22]) rfl rfl (by kernel_rfl) (by kernel_rfl) (by decide) (by have := bV; first | omega | (simp only [List.length_cons, List.length_nil] at this ⊢; omega) | (simp at this ⊢; omega))
 obtain ⟨aK, aV, aM, rfl⟩ := bi.form
 refine ZaN (.slice aK aV aM) (by kernel_rfl) (cB) ?_
 refine q_ (.slice aK aV aM) (Za (ce _ _ (sq_ fun cf => g_' (q_ (.slice aK aV aM) (q_ (D) (q_ (i_ e) ?_))))))
 have aF := (t_ O.n Y.n)
 have bM := (ae.djn (ar.lt.le aF))
 have c9 := (((aI.fr Z dn_).ext aj).fr aC bM)
 obtain ⟨dH, cC, bm⟩ := Sq.cut (P := Tryz.prog) c9 (t := 22) (by kernel_rfl) (lo := (some (i_ e))) (hi := none) (l := e.toNat) (r := l.length) (ZcH _ (by have := am; omega)) (rfl) (by have := am; omega) (by have := am; omega)
 obtain ⟨bF, cr, bI, rfl⟩ := bm.form
 refine Zbg (.slice bF cr bI) (by kernel_rfl) cC ?_
 obtain ⟨bW, cP⟩ := Zb cO
 obtain ⟨dI, dh, bQ, cD, bO, bj, b5⟩ := Ow.append (P := Tryz.prog) 24 aC.wf bi bm (fun _ _ => rfl) (at_ := #[22, 22]) rfl rfl (by kernel_rfl) (by kernel_rfl) (by decide) (by have := bW; first | omega | (simp only [List.length_cons, List.length_nil] at this ⊢; omega) | (simp at this ⊢; omega))
 obtain ⟨ay, aG, aA, rfl⟩ := bj.form
 refine ZaN (.slice ay aG aA) (by kernel_rfl) (cD) ?_
 refine q_ (.slice ay aG aA) (Za (cf _ _ ?_))
 refine Zg ?_
 refine br_ [.slice ay aG aA] ?_
 have bs := (t_ (t_ (t_ O.n Y.n) Z.n) aj.n)
 have cu := (t_ (t_ (t_ (t_ O.n Y.n) Z.n) aj.n) aC.n)
 obtain rfl := oi_ cP
 exact ⟨(.slice ay aG aA), bQ, rfl, (fs_ ac (fs_ ac ((fs_ ac (fs_ ac ((f0_ ac).extR O) Y in_) Z in_).extR aj) aC (ae.fresh aF)) bO (Inn.trans (ae.fresh aF) bs ba)), bj, (Inn.trans (Inn.trans (ae.fresh aF) bs ba) cu b5)⟩
end Go.Vd

/-! (KSn5) -/

set_option maxRecDepth 100000
set_option maxHeartbeats 4000000
set_option linter.unusedVariables false
namespace Go.Vd
open Go.Proofs
attribute [local irreducible] Zp Zr aWp
theorem Zg7 {H : AH} {ak : Value} {bn : Fp} {O : Int} {Arcs : List (Int × Int × Int)} {r : Int × List (Int × Int × Int)}
    (an : WF H) (aC : Sq Zq 3 H ak Arcs bn) (aU : ZcE O Arcs = some r) :
    ACalls Tryz.prog 84 #[.agg #[i_ O, ak]] H fun v H' => ∃ (bb : Value) (aQ : Fp), v = .agg #[i_ r.1, bb] /\ FrS [] H H' /\ Ow Zq 3 H' bb r.2 aQ /\ Inn [] H aQ := by
 refine ab_ Tryz.func84 ?_
 unfold ZcE at aU
 refine sq_ fun bB => g_' ?_
 refine ZaG an [i_ O, ak] (Zs (rfl) (Zs (aC.one1) (Z1))) (by kernel_rfl) fun aL cm ac cq a_ => ?_
 refine rk_ ac.wf [i_ 0, .slice none 0 0] fun aw cj aa bq ar => ?_
 refine Za (bB _ _ (sq_ fun bw => g_' (q_ (pt_ aL 0) ?_)))
 have bc := (a_.ext aa)
 refine lr_ 3 0 (i_ O) bc (q_ (.agg #[i_ O, .slice none 0 0]) ?_)
 refine rk_ aa.wf [i_ 0, .slice none 0 0] fun Z ck ab ad au => ?_
 obtain ⟨ao, bP, D, bY⟩ := ra_ 24 0 ab.wf au [i_ O, .slice none 0 0] [i_ O, .slice none 0 0]
 refine ek_ bP (Za (bw _ _ (sq_ fun bx => sq_ fun bz => g_' (q_ (pt_ aL 1) ?_))))
 have bk := (ad.djn (a_.ltF.le aa.n))
 have ce := ((bc.ext ab).frS D bk)
 refine lr_ 22 1 (ak) ce ?_
 have aG := (t_ ac.n aa.n)
 have aN := (ad.djn (aC.lt.le aG))
 have bd := ((((aC.ext ac).ext aa).ext ab).fr D aN)
 refine bd.ln_ 22 (q_ (i_ 0) (Za (bz _ _ ?_)))
 obtain ⟨a8, bt, bZ⟩ := bs_ aU
 refine ZC (fun α ap => ∃ (aJ : Value) (f46 : Fp), Has α [(2, pt_ aw 0), (3, pt_ Z 0)] /\ FrS [Z] ao ap /\ Ow Zq 3 ap aJ a8 f46 /\ Row ap Z [i_ O, aJ] /\ Inn [] ao f46) (fun _ bA => ?_) (fun α ap hM => ?_)
 ·refine Zm ?_
  obtain ⟨a6, bs⟩ := Zu.1 bt
  refine ZJ (fun n α aq => ∃ (e : Int), ∃ (c1 : List (Int × Int × Int)), ∃ (aK : Value), ∃ (ai : Fp), ZR (fun zz_ => ZbV Arcs zz_.1 zz_.2) n (e, c1) = some a8 /\ Has α [(2, pt_ aw 0), (3, pt_ Z 0), (10, ak), (11, i_ (Arcs.length : Int)), (12, i_ e)] /\ FrS [Z] ao aq /\ Ow Zq 3 aq aK c1 ai /\ Row aq Z [i_ O, aK] /\ Inn [] ao ai) a6 ⟨0, [], (.slice none 0 0), [], bs, ha_, (fr_ D.wf), (Ow.nil (by decide)), bY, in_⟩ ?_
  rintro a6 α aq ⟨e, c1, aK, ai, br, aT, U, af, aE, aX⟩ cp aY
  obtain ⟨a7, z66, rfl, al, aD⟩ := Zy br
  obtain ⟨β, rfl⟩ := Zk aT
  clear aT
  replace al : ZbV Arcs e c1 = some z66 := al
  unfold ZbV at al
  obtain ⟨a70, aH, ay, rfl⟩ := af.form
  refine sq_ fun bC => g_' (q_ (.bool (decide (e < (Arcs.length : Int)))) (Za (bC _ _ (sq_ fun bD => ?_))))
  refine wc_ (e < (Arcs.length : Int)) (fun aj => ?_) fun aj => ?_
  ·have b5 := Ze aj al
   refine Zf (bD _ _ (sq_ fun aZ => Zm (sq_ fun bE => g_' ?_)))
   obtain ⟨aR, ba⟩ := Zb b5
   have be := (bd.fr U aN)
   refine be.ix_ 22 aR aj (le_ 74 0 (.agg #[i_ ((gt Arcs e).1), i_ ((gt Arcs e).2.1), i_ ((gt Arcs e).2.2)]) be aR aj ?_)
   refine rk_ U.wf [i_ 0, i_ 0, i_ 0] fun aM cn V ae b6 => ?_
   obtain ⟨co, bQ, Y, aI⟩ := ra_ 74 0 V.wf b6 [i_ ((gt Arcs e).1), i_ ((gt Arcs e).2.1), i_ ((gt Arcs e).2.2)] [i_ ((gt Arcs e).1), i_ ((gt Arcs e).2.1), i_ ((gt Arcs e).2.2)]
   refine ek_ bQ (Za (bE _ _ (sq_ fun bF => g_' (q_ (pt_ aM 0) (lr_ 3 0 (i_ ((gt Arcs e).1)) aI (q_ (pt_ aM 1) (lr_ 3 1 (i_ ((gt Arcs e).2.1)) aI (q_ (.bool (!decide (((gt Arcs e).1) = ((gt Arcs e).2.1)))) (Za (bF _ _ ?_))))))))))
   refine Zde (((gt Arcs e).1) = ((gt Arcs e).2.1)) (by kernel_rfl) rfl (fun aB => ?_) (fun aB => ?_)
   ·have b7 := Zi aB ba
    refine g_' (q_ (pt_ Z 1) ?_)
    have bM := (t_ D.n U.n)
    have bl := (ae.djn (au.ltF.le bM))
    have bf := ((aE.ext V).frS Y bl)
    refine lr_ 22 1 (.slice a70 aH ay) bf (lr_ 74 0 (.agg #[i_ ((gt Arcs e).1), i_ ((gt Arcs e).2.1), i_ ((gt Arcs e).2.2)]) aI ?_)
    have cf := ((af.ext V).fr Y (ae.djn af.lt))
    obtain ⟨cg, bu, bR⟩ := bs_ b7
    refine ck_ (ZgF Y.wf cf.sq bu) ?_
    rintro cr ch ⟨_, bm, rfl, az, a1, aV⟩
    obtain ⟨av, aF, ax, rfl⟩ := a1.form
    refine q_ (pt_ Z 1) ?_
    have b8 := (bf.frS az dn_)
    obtain ⟨ci, bN, aO, bS⟩ := rb_ 22 1 az.wf b8 (.slice av aF ax) [i_ O, .slice av aF ax]
    refine ek_ bN (Za (aZ _ _ (g_' ?_)))
    obtain ⟨bo, bT⟩ := Zb bR
    refine w_' ((e + 1)) (Zn (by have := bo; omega)) (q_ (i_ (e + 1)) (Za ?_))
    have bH := (t_ (t_ (t_ D.n U.n) V.n) Y.n)
    have bh := (aV.djn (au.ltF.le bH))
    have b9 := (a1.fr aO (Dj.symm bh))
    have bI := (t_ (t_ U.n V.n) Y.n)
    obtain rfl := oi_ bT
    exact aY a7 _ _ lt_ ⟨(e + 1), cg, (.slice av aF ax), bm, aD, ha_, (fs_ D.wf (fs_ D.wf (fs_ D.wf ((fs_ D.wf (fr_ D.wf) U ir_).extR V) Y (ae.fresh U.n)) az in_) aO ir_), b9, bS, (aV.fresh bI)⟩
   have bU := Ze aB ba
   refine Zf (aZ _ _ (g_' ?_))
   obtain ⟨bp, bV⟩ := Zb bU
   refine w_' ((e + 1)) (Zn (by have := bp; omega)) (q_ (i_ (e + 1)) (Za ?_))
   have b_ := ((af.ext V).fr Y (ae.djn af.lt))
   have bJ := (t_ D.n U.n)
   have bi := (ae.djn (au.ltF.le bJ))
   have ca := ((aE.ext V).frS Y bi)
   obtain rfl := oi_ bV
   exact aY a7 _ _ lt_ ⟨(e + 1), c1, (.slice a70 aH ay), ai, aD, ha_, (fs_ D.wf ((fs_ D.wf (fr_ D.wf) U ir_).extR V) Y (ae.fresh U.n)), b_, ca, (aX.fresh (Nat.le_refl _))⟩
  have bW := Zi aj al
  refine ZK (Zj (Zj (ZV ?_)))
  obtain rfl := oi_ bW
  obtain rfl := Zx aD
  exact bA _ _ ⟨(.slice a70 aH ay), ai, ha_, (fs_ D.wf (fr_ D.wf) U ir_), af, aE, (aX.fresh (Nat.le_refl _))⟩
 obtain ⟨aJ, f46, aS, aA, a2, bG, aW⟩ := hM
 obtain ⟨β, rfl⟩ := Zk aS
 clear aS
 obtain ⟨ag, am, ah, rfl⟩ := a2.form
 refine bx _ _ (sq_ fun bv => g_' (lr_ 24 0 (.agg #[i_ O, .slice ag am ah]) bG ?_))
 have cc := (((ar.ext ab).frS D (ad.djn ar.ltF)).frS aA (ad.djn ar.ltF))
 obtain ⟨bg, bO, aP, bX⟩ := ra_ 24 0 aA.wf cc [i_ O, .slice ag am ah] [i_ O, .slice ag am ah]
 refine ek_ bO (Za (bv _ _ ?_))
 refine Zg ?_
 refine Z3 (vs := [.agg #[i_ O, .slice ag am ah]]) (ZM (Eq.trans (b := aL_ 24 (pt_ aw 0) bg) (by kernel_rfl) (bX.l_)) (rfl)) ?_
 have bK := (t_ ab.n D.n)
 have bj := (aW.djn (ar.ltF.le bK))
 have cd := (a2.fr aP (Dj.symm bj))
 have bL := (t_ (t_ (t_ ac.n aa.n) ab.n) D.n)
 obtain rfl := oi_ bZ
 exact ⟨(.slice ag am ah), f46, rfl, (fs_ an (fs_ an (fs_ an ((((f0_ an).extR ac).extR aa).extR ab) D (ad.fresh aG)) aA (ad.fresh aG)) aP (bq.fresh ac.n)), cd, (aW.fresh bL)⟩
theorem Zf6 {H : AH} {aj : Value} {be : Fp} {ah : Int} {Arcs : List (Int × Int × Int)} {r : Int × List (Int × Int × Int) × Int × List (Int × Int)}
    (U : WF H) (ax : Sq Zq 3 H aj Arcs be) (aL : ZbO ah Arcs = some r) :
    ACalls Tryz.prog 59 #[.agg #[i_ ah, aj]] H fun v H' => ∃ (aR : Value) (au : Fp) (aS : Value) (av : Fp), v = .tuple #[.agg #[i_ r.1, aR], .agg #[i_ r.2.2.1, aS]] /\ FrS [] H H' /\ Ow Zq 3 H' aR r.2.1 au /\ Ow Zav 2 H' aS r.2.2.2 av /\ Inn [] H au /\ Inn [] H av /\ Dj au av := by
 refine ab_ Tryz.func59 ?_
 unfold ZbO at aL
 refine sq_ fun bi => g_' ?_
 refine ZaG U [i_ ah, aj] (Zs (rfl) (Zs (ax.one1) (Z1))) (by kernel_rfl) fun ce b8 Z cf aO => ?_
 refine rk_ Z.wf [i_ 0, .slice none 0 0] fun aE b9 aa aK ae => ?_
 refine rk_ aa.wf [i_ 0, .slice none 0 0] fun aF b_ D ao ag => ?_
 refine Za (bi _ _ (sq_ fun bj => sq_ fun bk => g_' ?_))
 have aT := ((aO.ext aa).ext D)
 refine lr_ 24 0 (.agg #[i_ ah, aj]) aT ?_
 have aU := (((ax.ext Z).ext aa).ext D)
 obtain ⟨af, bg, bH⟩ := bs_ aL
 refine ck_ (ZdU D.wf aU bg) ?_
 rintro _ ca ⟨ch, bd, rfl, e, aA, az⟩
 obtain ⟨a45, ad, ac, rfl⟩ := aA.form
 refine rk_ e.wf [i_ 0, .slice none 0 0] fun aG cc V ab bI => ?_
 have bS := (aA.ext V)
 obtain ⟨cd, bB, Y, aP⟩ := ra_ 44 0 V.wf bI [i_ af.1, .slice a45 ad ac] [i_ af.1, .slice a45 ad ac]
 refine ek_ bB (Za (bk _ _ (sq_ fun bl => g_' (lr_ 44 0 (.agg #[i_ af.1, .slice a45 ad ac]) aP ?_))))
 have aV := (bS.fr Y (ab.djn aA.lt))
 obtain ⟨b5, bh, aQ⟩ := bs_ bH
 refine ck_ (ZaH Y.wf aV.sq bh) ?_
 rintro _ aX ⟨rfl, O⟩
 refine Za (bl _ _ ?_)
 refine wb_ (b5) (fun aw => ?_) fun aw => ?_
 ·have bJ := Ze aw aQ
  refine sq_ fun bm => ?_
  refine ZQ [0, 1, 2, 3] (by kernel_rfl) ?_
  refine e_' (.agg #[i_ 0, .slice none 0 0]) ?_
  have aW := (aP.frS O dn_)
  refine Zcb (.agg #[i_ af.1, .slice a45 ad ac]) (x := aL_ 44 (pt_ aG 0) aX) (by kernel_rfl) (aW.l_) ?_
  have bt := (t_ D.n e.n)
  have aI := (ab.djn (ae.ltF.le bt))
  have bT := (((((ae.ext D).frS e dn_).ext V).frS Y aI).frS O dn_)
  obtain ⟨aY, bC, ai, bK⟩ := ra_ 24 0 O.wf bT [i_ 0, .slice none 0 0] [i_ 0, .slice none 0 0]
  have bU := (aW.frS ai (Dj.symm aI))
  refine fk_ bC (ZaB (y := aL_ 44 (pt_ aG 0) aY) (by kernel_rfl) (bU.l_) (ZF)) ?_
  have a7 := (ab.djn (ag.ltF.le e.n))
  have aJ := (ao.djn ae.ltF)
  have bV := (((((ag.frS e dn_).ext V).frS Y a7).frS O dn_).frS ai (Dj.symm aJ))
  have a8 := (az.djn (ae.ltF.le D.n))
  have bW := ((aV.fr O dn_).fr ai (Dj.symm a8))
  obtain ⟨aD, bD, ar, bL⟩ := ra_ 44 0 ai.wf bV [i_ af.1, .slice a45 ad ac] [i_ af.1, .slice a45 ad ac]
  refine fk_ bD (Zab (by kernel_rfl) (ZF)) ?_
  refine ZI ?_
  refine bm _ _ ?_
  refine Zg (Zh ?_)
  have bX := (bK.frS ar aJ)
  refine Z3 (vs := [.agg #[i_ 0, .slice none 0 0], .agg #[i_ af.1, .slice a45 ad ac]]) (ZM (Eq.trans (b := aL_ 24 (pt_ aE 0) aD) (by kernel_rfl) (bX.l_)) (ZM (Eq.trans (b := aL_ 44 (pt_ aF 0) aD) (by kernel_rfl) (bL.l_)) (rfl))) ?_
  have bu := (t_ (t_ (t_ Z.n aa.n) D.n) e.n)
  have bv := (t_ Z.n aa.n)
  have a_ := (az.djn ag.ltF)
  have bY := (bW.fr ar (Dj.symm a_))
  have bw := (t_ (t_ Z.n aa.n) D.n)
  obtain rfl := oi_ bJ
  exact ⟨(.slice none 0 0), [], (.slice a45 ad ac), bd, rfl, (fs_ U (fs_ U (fs_ U (fs_ U ((fs_ U ((((f0_ U).extR Z).extR aa).extR D) e in_).extR V) Y (ab.fresh bu)) O in_) ai (aK.fresh Z.n)) ar (ao.fresh bv)), (Ow.nil (by decide)), bY, in_, (az.fresh bw), dn_⟩
 have bM := ZL aw aQ
 refine Zf (bj _ _ (sq_ fun bn => g_' ?_))
 have bx := (t_ (t_ aa.n D.n) e.n)
 have ba := (ab.djn (aO.ltF.le bx))
 have bZ := ((((aT.frS e dn_).ext V).frS Y ba).frS O dn_)
 refine lr_ 24 0 (.agg #[i_ ah, aj]) bZ ?_
 have aN := (t_ (t_ (t_ Z.n aa.n) D.n) e.n)
 have bb := (ab.djn (ax.lt.le aN))
 have bN := ((((aU.fr e dn_).ext V).fr Y bb).fr O dn_)
 obtain ⟨aB, bf, bE⟩ := bs_ bM
 refine ck_ (Zg7 O.wf bN bf) ?_
 rintro _ b6 ⟨cg, bc, rfl, am, aM, ay⟩
 obtain ⟨ak, ap, al, rfl⟩ := aM.form
 refine q_ (.agg #[i_ 0, .slice none 0 0]) ?_
 have bo := (t_ D.n e.n)
 have aZ := (ab.djn (ae.ltF.le bo))
 have bO := ((((((ae.ext D).frS e dn_).ext V).frS Y aZ).frS O dn_).frS am dn_)
 obtain ⟨b7, bz, an, bF⟩ := ra_ 24 0 am.wf bO [i_ aB.1, .slice ak ap al] [i_ aB.1, .slice ak ap al]
 refine ek_ bz ?_
 have a1 := (ab.djn (ag.ltF.le e.n))
 have aH := (ao.djn ae.ltF)
 have bP := ((((((ag.frS e dn_).ext V).frS Y a1).frS O dn_).frS am dn_).frS an (Dj.symm aH))
 obtain ⟨aC, bA, aq, bG⟩ := ra_ 44 0 an.wf bP [i_ 0, .slice none 0 0] [i_ 0, .slice none 0 0]
 refine ek_ bA (Za (bn _ _ ?_))
 refine Zg ?_
 have bQ := (bF.frS aq aH)
 refine Z3 (vs := [.agg #[i_ aB.1, .slice ak ap al], .agg #[i_ 0, .slice none 0 0]]) (ZM (Eq.trans (b := aL_ 24 (pt_ aE 0) aC) (by kernel_rfl) (bQ.l_)) (ZM (Eq.trans (b := aL_ 44 (pt_ aF 0) aC) (by kernel_rfl) (bG.l_)) (rfl))) ?_
 have bp := (t_ Z.n aa.n)
 have bq := (t_ (t_ (t_ (t_ D.n e.n) V.n) Y.n) O.n)
 have a2 := (ay.djn (ae.ltF.le bq))
 have br := (t_ (t_ (t_ e.n V.n) Y.n) O.n)
 have a6 := (ay.djn (ag.ltF.le br))
 have bR := ((aM.fr an (Dj.symm a2)).fr aq (Dj.symm a6))
 have bs := (t_ (t_ (t_ (t_ (t_ (t_ Z.n aa.n) D.n) e.n) V.n) Y.n) O.n)
 obtain rfl := oi_ bE
 exact ⟨(.slice ak ap al), bc, (.slice none 0 0), [], rfl, (fs_ U (fs_ U (fs_ U (fs_ U (fs_ U ((fs_ U ((((f0_ U).extR Z).extR aa).extR D) e in_).extR V) Y (ab.fresh aN)) O in_) am in_) an (aK.fresh Z.n)) aq (ao.fresh bp)), bR, (Ow.nil (by decide)), (ay.fresh bs), in_, Dj.nil_r⟩
theorem ZgK {H : AH} {aw : Value} {bZ : Fp} {Z : Int} {Arcs : List (Int × Int × Int)} {r : List (Bool) × List (Int × Int × Int × Int)}
    (ap : WF H) (aN : Sq Zq 3 H aw Arcs bZ) (bv : Zcq Z Arcs = some r) :
    ACalls Tryz.prog 60 #[.agg #[i_ Z, aw]] H fun v H' => ∃ (bE : Value) (aW : Fp) (bF : Value) (aX : Fp), v = .agg #[bE, bF] /\ FrS [] H H' /\ Ow ZaC 1 H' bE r.1 aW /\ Ow Zo 4 H' bF r.2 aX /\ Inn [] H aW /\ Inn [] H aX /\ Dj aW aX := by
 refine ab_ Tryz.func60 ?_
 unfold Zcq at bv
 refine sq_ fun ci => g_' ?_
 refine ZaG ap [i_ Z, aw] (Zs (rfl) (Zs (aN.one1) (Z1))) (by kernel_rfl) fun aG dt aj dH a_ => ?_
 refine rk_ aj.wf [.slice none 0 0, .slice none 0 0] fun ar dz ad b9 aC => ?_
 refine Za (ci _ _ (sq_ fun cq => g_' (q_ (pt_ aG 0) ?_)))
 have bJ := (a_.ext ad)
 refine lr_ 3 0 (i_ Z) bJ ?_
 obtain ⟨bl, c7⟩ := Zb bv
 refine ZmF (t := 30) (m := 1) (l := Z) (c := Z) (enc := ZaC) (sz := 1) ad.wf (false : Bool) (by kernel_rfl) (by decide) bl.1 (Int.le_refl _) (by omega) (by have := bl; omega) (by kernel_rfl) fun dM an bM ac ao ag => ?_
 obtain ⟨U, Y, V, rfl⟩ := ag.form
 have ag : Ow ZaC 1 bM (.slice U Y V) (List.replicate Z.toNat (false : Bool)) an := ag
 refine q_ (.agg #[.slice U Y V, .slice none 0 0]) ?_
 refine rk_ ac.wf [.slice none 0 0, .slice none 0 0] fun ab dA ae af aR => ?_
 have dm := (ag.ext ae)
 obtain ⟨bd, cT, O, ba⟩ := ra_ 33 0 ae.wf aR [.slice U Y V, .slice none 0 0] [.slice U Y V, .slice none 0 0]
 refine ek_ cT (Za (cq _ _ (sq_ fun cr => sq_ fun cu => g_' (q_ (pt_ ab 0) (lr_ 30 0 (.slice U Y V) ba ?_)))))
 have bK := (dm.fr O (af.djn ag.lt))
 refine bK.sq.ln_ 30 (q_ (i_ 0) (Za (cu _ _ ?_)))
 obtain ⟨bD, cg, c8⟩ := bs_ c7
 refine ZC (fun α ai => Has α [(1, pt_ aG 0), (2, pt_ ar 0), (3, pt_ ab 0)] /\ FrS an bd ai /\ Ow ZaC 1 ai (.slice U Y V) bD an) (fun _ cv => ?_) (fun α ai hM => ?_)
 ·refine Zm ?_
  obtain ⟨bB, ce⟩ := Zu.1 cg
  refine ZJ (fun n α aS => ∃ (aa : Int), ∃ (aA : List (Bool)), ZR (fun zz_ => Zbq Z zz_.1 zz_.2) n (aa, aA) = some bD /\ Has α [(1, pt_ aG 0), (2, pt_ ar 0), (3, pt_ ab 0), (13, i_ ((List.replicate Z.toNat (false : Bool)).length : Int)), (14, i_ aa)] /\ FrS an bd aS /\ Ow ZaC 1 aS (.slice U Y V) aA an) bB ⟨0, (List.replicate Z.toNat (false : Bool)), ce, ha_, (fr_ O.wf), bK⟩ ?_
  rintro bB α aS ⟨aa, aA, ca, bq, aJ, a2⟩ dD cw
  obtain ⟨cN, dr, rfl, ay, bu⟩ := Zy ca
  obtain ⟨β, rfl⟩ := Zk bq
  clear bq
  replace ay : Zbq Z aa aA = some dr := ay
  unfold Zbq at ay
  refine sq_ fun cx => g_' (q_ (.bool (decide (aa < ((List.replicate Z.toNat (false : Bool)).length : Int)))) (Za (cx _ _ (sq_ fun cy => ?_))))
  refine wc_ (aa < ((List.replicate Z.toNat (false : Bool)).length : Int)) (fun aY => ?_) fun aY => ?_
  ·have c9 := Ze aY ay
   refine Zf (cy _ _ (sq_ fun cz => Zm (sq_ fun cA => g_' (q_ (i_ aa) (q_ (i_ aa) (Za (cA _ _ (g_' (q_ (pt_ ab 0) ?_)))))))))
   have bU := (af.djn ag.lt)
   have dn := (ba.frS aJ (Dj.symm bU))
   refine lr_ 30 0 (.slice U Y V) dn (q_ (i_ aa) ?_)
   obtain ⟨aM, c_⟩ := Zb c9
   refine a2.sq.ix_ 30 aM.1 aM.2 ?_
   obtain ⟨dB, cU, bX, cc⟩ := Ow.store (P := Tryz.prog) (t := 4) (off := 0) aJ.wf a2 aM.1 aM.2 (.bool true) [.bool true] (by kernel_rfl) (by kernel_rfl) rfl true (Nat.le_of_ble_eq_true rfl) (by kernel_rfl)
   refine ek_ cU (Za (cz _ _ (g_' ?_)))
   obtain ⟨b8, da⟩ := Zb c_
   refine w_' ((aa + 1)) (Zn (by have := b8; omega)) (q_ (i_ (aa + 1)) (Za ?_))
   obtain rfl := oi_ da
   exact cw cN _ _ lt_ ⟨(aa + 1), (aA.set aa.toNat true), bu, ha_, (fs_ O.wf (fs_ O.wf (fr_ O.wf) aJ ir_) bX ir_), cc⟩
  have db := Zi aY ay
  refine ZK (Zj (Zj (ZV ?_)))
  obtain rfl := oi_ db
  obtain rfl := Zx bu
  exact cv _ _ ⟨ha_, (fs_ O.wf (fr_ O.wf) aJ ir_), a2⟩
 obtain ⟨bp, D, cE⟩ := hM
 obtain ⟨β, rfl⟩ := Zk bp
 clear bp
 refine cr _ _ (sq_ fun cB => sq_ fun cC => g_' (q_ (pt_ aG 1) ?_))
 have cO := (t_ ad.n ac.n)
 have bV := (af.djn (a_.ltF.le cO))
 have bW := (ao.djn (a_.ltF.le ad.n))
 have dp := ((((bJ.ext ac).ext ae).frS O bV).frS D bW)
 refine lr_ 22 1 (aw) dp ?_
 have a7 := (t_ (t_ aj.n ad.n) ac.n)
 have bi := (af.djn (aN.lt.le a7))
 have a6 := (t_ aj.n ad.n)
 have bN := (ao.djn (aN.lt.le a6))
 have bG := ((((((aN.ext aj).ext ad).ext ac).ext ae).fr O bi).fr D bN)
 refine bG.ln_ 22 (q_ (i_ 0) (Za (cC _ _ ?_)))
 obtain ⟨bC, cf, cV⟩ := bs_ c8
 refine ZC (fun α aD => ∃ (bb : Value) (aK : Fp), Has α [(2, pt_ ar 0), (3, pt_ ab 0)] /\ FrS [ab] ai aD /\ Ow Zo 4 aD bb bC aK /\ Row aD ab [.slice U Y V, bb] /\ Inn [] ai aK) (fun _ ch => ?_) (fun α aD hM => ?_)
 ·refine Zm ?_
  obtain ⟨bz, cd⟩ := Zu.1 cf
  have bO := (af.djn ag.lt)
  have dc := (ba.frS D (Dj.symm bO))
  refine ZJ (fun n α aE => ∃ (e : Int), ∃ (aB : List (Int × Int × Int × Int)), ∃ (bc : Value), ∃ (aL : Fp), ZR (fun zz_ => Zbs Arcs zz_.1 zz_.2) n (e, aB) = some bC /\ Has α [(2, pt_ ar 0), (3, pt_ ab 0), (23, aw), (24, i_ (Arcs.length : Int)), (25, i_ e)] /\ FrS [ab] ai aE /\ Ow Zo 4 aE bc aB aL /\ Row aE ab [.slice U Y V, bc] /\ Inn [] ai aL) bz ⟨0, [], (.slice none 0 0), [], cd, ha_, (fr_ D.wf), (Ow.nil (by decide)), dc, in_⟩ ?_
  rintro bz α aE ⟨e, aB, bc, aL, b_, bo, ah, aP, bx, aO⟩ dC cj
  obtain ⟨cF, dq, rfl, ax, bt⟩ := Zy b_
  obtain ⟨β, rfl⟩ := Zk bo
  clear bo
  replace ax : Zbs Arcs e aB = some dq := ax
  unfold Zbs at ax
  obtain ⟨be, bA, bf, rfl⟩ := aP.form
  refine sq_ fun ck => g_' (q_ (.bool (decide (e < (Arcs.length : Int)))) (Za (ck _ _ (sq_ fun cm => ?_))))
  refine wc_ (e < (Arcs.length : Int)) (fun av => ?_) fun av => ?_
  ·have cW := Ze av ax
   refine Zf (cm _ _ (sq_ fun cn => Zm (sq_ fun co => g_' ?_)))
   obtain ⟨bk, cX⟩ := Zb cW
   have bH := (bG.fr ah bi)
   refine bH.ix_ 22 bk av (le_ 74 0 (.agg #[i_ ((gt Arcs e).1), i_ ((gt Arcs e).2.1), i_ ((gt Arcs e).2.2)]) bH bk av ?_)
   refine rk_ ah.wf [i_ 0, i_ 0, i_ 0] fun aT du ak aZ cY => ?_
   obtain ⟨dv, cP, al, a8⟩ := ra_ 74 0 ak.wf cY [i_ ((gt Arcs e).1), i_ ((gt Arcs e).2.1), i_ ((gt Arcs e).2.2)] [i_ ((gt Arcs e).1), i_ ((gt Arcs e).2.1), i_ ((gt Arcs e).2.2)]
   refine ek_ cP (Za (co _ _ (g_' (q_ (pt_ ab 1) ?_))))
   have cG := (t_ (t_ O.n D.n) ah.n)
   have bP := (aZ.djn (aR.ltF.le cG))
   have bI := ((bx.ext ak).frS al bP)
   refine lr_ 31 1 (.slice be bA bf) bI (q_ (pt_ aT 0) (lr_ 3 0 (i_ ((gt Arcs e).1)) a8 (q_ (pt_ aT 1) (lr_ 3 1 (i_ ((gt Arcs e).2.1)) a8 (q_ (pt_ aT 2) (lr_ 3 2 (i_ ((gt Arcs e).2.2)) a8 ?_))))))
   obtain ⟨b5, cZ⟩ := Zb cX
   refine s_w ((gt Arcs e).2.2) (k := .u64) (x := (gt Arcs e).2.2) (by kernel_rfl) (Zdw b5) ?_
   refine q_ (.agg #[i_ ((gt Arcs e).1), i_ ((gt Arcs e).2.1), .int .u64 ((gt Arcs e).2.2), i_ (-1)]) ?_
   refine Zbl (enc := Zo) (sz := 4) al.wf [((gt Arcs e).1, (gt Arcs e).2.1, (gt Arcs e).2.2, (-1))] 1 (by decide) (fun _ _ => rfl) (fun _ _ => rfl) rfl (by kernel_rfl) fun dK dG dw am dI br => ?_
   obtain ⟨dE, dJ, dF, rfl⟩ := br.form
   have dd := (((aP.ext ak).fr al (aZ.djn aP.lt)).ext am)
   obtain ⟨b6, c0⟩ := Zb cZ
   obtain ⟨dL, dx, bY, cQ, aU, bs, bm⟩ := Ow.append (P := Tryz.prog) 32 am.wf dd br.sq (fun _ _ => rfl) (at_ := #[31, 31]) rfl rfl (by kernel_rfl) (by kernel_rfl) (by decide) (by have := b6; first | omega | (simp only [List.length_cons, List.length_nil] at this ⊢; omega) | (simp at this ⊢; omega))
   obtain ⟨aF, aQ, aH, rfl⟩ := bs.form
   refine ZaN (.slice aF aQ aH) (by kernel_rfl) (cQ) ?_
   refine q_ (pt_ ab 1) ?_
   have cH := (t_ O.n D.n)
   have bg := (aO.djn (aR.ltF.le cH))
   have de := ((bI.ext am).frS aU bg)
   obtain ⟨dy, cR, bj, c3⟩ := rb_ 31 1 aU.wf de (.slice aF aQ aH) [.slice U Y V, .slice aF aQ aH]
   refine ek_ cR (Za (cn _ _ (g_' ?_)))
   obtain ⟨b7, c4⟩ := Zb c0
   refine w_' ((e + 1)) (Zn (by have := b7; omega)) (q_ (i_ (e + 1)) (Za ?_))
   have cI := (t_ (t_ (t_ (t_ (t_ O.n D.n) ah.n) ak.n) al.n) am.n)
   have bQ := (bm.dj bg (aR.ltF.le cI))
   have df := (bs.fr bj (Dj.symm bQ))
   have cJ := (t_ (t_ (t_ ah.n ak.n) al.n) am.n)
   obtain rfl := oi_ c4
   exact cj cF _ _ lt_ ⟨(e + 1), (aB ++ [((gt Arcs e).1, (gt Arcs e).2.1, (gt Arcs e).2.2, (-1))]), (.slice aF aQ aH), bY, bt, ha_, (fs_ D.wf (fs_ D.wf ((fs_ D.wf ((fs_ D.wf (fr_ D.wf) ah ir_).extR ak) al (aZ.fresh ah.n)).extR am) aU (aO.fresh (Nat.le_refl _))) bj ir_), df, c3, (Inn.trans (aO.fresh (Nat.le_refl _)) cJ bm)⟩
  have c5 := Zi av ax
  refine ZK (Zj (Zj (ZV ?_)))
  obtain rfl := oi_ c5
  obtain rfl := Zx bt
  exact ch _ _ ⟨(.slice be bA bf), aL, ha_, (fs_ D.wf (fr_ D.wf) ah ir_), aP, bx, (aO.fresh (Nat.le_refl _))⟩
 obtain ⟨bb, aK, bn, aI, bw, cD, a1⟩ := hM
 obtain ⟨β, rfl⟩ := Zk bn
 clear bn
 obtain ⟨aq, az, au, rfl⟩ := bw.form
 refine cB _ _ (sq_ fun cp => g_' (lr_ 33 0 (.agg #[.slice U Y V, .slice aq az au]) cD ?_))
 have bh := (af.djn (aC.ltF.le ac.n))
 have dg := (((((aC.ext ac).ext ae).frS O bh).frS D (ao.djn aC.ltF)).frS aI bh)
 have dh := (cE.fr aI (af.djn ag.lt))
 obtain ⟨bL, cS, aV, c6⟩ := ra_ 33 0 aI.wf dg [.slice U Y V, .slice aq az au] [.slice U Y V, .slice aq az au]
 refine ek_ cS (Za (cp _ _ ?_))
 refine Zg ?_
 refine Z3 (vs := [.agg #[.slice U Y V, .slice aq az au]]) (ZM (Eq.trans (b := aL_ 33 (pt_ ar 0) bL) (by kernel_rfl) (c6.l_)) (rfl)) ?_
 have bR := (ao.djn aC.ltF)
 have di := (dh.fr aV (Dj.symm bR))
 have cK := (t_ (t_ (t_ ac.n ae.n) O.n) D.n)
 have bS := (a1.djn (aC.ltF.le cK))
 have dk := (bw.fr aV (Dj.symm bS))
 have cL := (t_ (t_ (t_ (t_ (t_ aj.n ad.n) ac.n) ae.n) O.n) D.n)
 have cM := (t_ (t_ ae.n O.n) D.n)
 have bT := (a1.djn (ag.lt.le cM))
 obtain rfl := oi_ cV
 exact ⟨(.slice U Y V), an, (.slice aq az au), aK, rfl, (fs_ ap (fs_ ap (fs_ ap (fs_ ap (((((f0_ ap).extR aj).extR ad).extR ac).extR ae) O (af.fresh a7)) D (ao.fresh a6)) aI (af.fresh a7)) aV (b9.fresh aj.n)), di, dk, (ao.fresh a6), (a1.fresh cL), (Dj.symm bT)⟩
theorem ZfD {H : AH} {aG : Value} {bK : Fp} {ax : Int} {Arcs : List (Int × Int × Int)} {r : List (Bool) × List (Int × Int × Int × Int) × Int × List (Int × Int)}
    (Y : WF H) (a1 : Sq Zq 3 H aG Arcs bK) (a6 : Zbu ax Arcs = some r) :
    ACalls Tryz.prog 35 #[.agg #[i_ ax, aG]] H fun v H' => ∃ (bg : Value) (aD : Fp) (bh : Value) (aE : Fp) (bf : Value) (aC : Fp), v = .tuple #[.agg #[bg, bh], .agg #[i_ r.2.2.1, bf]] /\ FrS [] H H' /\ Ow ZaC 1 H' bg r.1 aD /\ Ow Zo 4 H' bh r.2.1 aE /\ Ow Zav 2 H' bf r.2.2.2 aC /\ Inn [] H aD /\ Inn [] H aE /\ Inn [] H aC /\ Dj aD aE /\ Dj aD aC /\ Dj aE aC := by
 refine ab_ Tryz.func35 ?_
 unfold Zbu at a6
 refine sq_ fun bP => g_' ?_
 refine ZaG Y [i_ ax, aG] (Zs (rfl) (Zs (a1.one1) (Z1))) (by kernel_rfl) fun c4 cU ab c8 cq => ?_
 refine rk_ ab.wf [.slice none 0 0, .slice none 0 0] fun aT cV ad a2 ah => ?_
 refine rk_ ad.wf [i_ 0, .slice none 0 0] fun aU cW D aF ai => ?_
 refine Za (bP _ _ (sq_ fun bQ => g_' ?_))
 have cN := ((cq.ext ad).ext D)
 refine lr_ 24 0 (.agg #[i_ ax, aG]) cN ?_
 have cO := (((a1.ext ab).ext ad).ext D)
 obtain ⟨V, bM, cr⟩ := bs_ a6
 refine ck_ (Zf6 D.wf cO bM) ?_
 rintro _ cX ⟨db, c7, dc, f47, rfl, e, aJ, ao, c9, an, c6⟩
 obtain ⟨ap, aw, ar, rfl⟩ := aJ.form
 obtain ⟨Z, ac, aa, rfl⟩ := ao.form
 refine q_ (.tuple #[.agg #[i_ V.1, .slice ap aw ar], .agg #[i_ V.2.2.1, .slice Z ac aa]]) (q_ (.agg #[i_ V.1, .slice ap aw ar]) (q_ (.agg #[i_ V.2.2.1, .slice Z ac aa]) ?_))
 refine rk_ e.wf [i_ 0, .slice none 0 0] fun c5 cY O ak bd => ?_
 refine rk_ O.wf [i_ 0, .slice none 0 0] fun aq cZ ae aj cu => ?_
 have cP := (bd.ext ae)
 have cQ := ((aJ.ext O).ext ae)
 obtain ⟨c0, ch, af, cv⟩ := ra_ 24 0 ae.wf cP [i_ V.1, .slice ap aw ar] [i_ V.1, .slice ap aw ar]
 refine ek_ ch ?_
 have aZ := (aj.djn bd.ltF)
 have cR := (cu.frS af (Dj.symm aZ))
 have cS := (((ao.ext O).ext ae).fr af (ak.djn ao.lt))
 obtain ⟨c3, ci, ag, aO⟩ := ra_ 44 0 af.wf cR [i_ V.2.2.1, .slice Z ac aa] [i_ V.2.2.1, .slice Z ac aa]
 refine ek_ ci (Za (bQ _ _ (sq_ fun bR => sq_ fun bS => g_' (lr_ 44 0 (.agg #[i_ V.2.2.1, .slice Z ac aa]) aO ?_))))
 have bH := (aj.djn (ao.lt.le O.n))
 have aP := (cS.fr ag bH)
 obtain ⟨cT, bN, be⟩ := bs_ cr
 refine ck_ (ZaH ag.wf aP.sq bN) ?_
 rintro _ aS ⟨rfl, U⟩
 refine Za (bS _ _ ?_)
 refine wb_ (cT) (fun aN => ?_) fun aN => ?_
 ·have cw := Ze aN be
  refine sq_ fun bT => ?_
  refine ZQ [0, 1, 2, 3] (by kernel_rfl) ?_
  refine e_' (.agg #[.slice none 0 0, .slice none 0 0]) ?_
  have bi := (aO.frS U dn_)
  refine Zcb (.agg #[i_ V.2.2.1, .slice Z ac aa]) (x := aL_ 44 (pt_ aq 0) aS) (by kernel_rfl) (bi.l_) ?_
  have bU := (t_ D.n e.n)
  have bo := (ak.djn (ah.ltF.le bU))
  have bV := (t_ (t_ D.n e.n) O.n)
  have aV := (aj.djn (ah.ltF.le bV))
  have cx := (((((((ah.ext D).frS e dn_).ext O).ext ae).frS af bo).frS ag aV).frS U dn_)
  obtain ⟨bl, cd, au, cj⟩ := ra_ 33 0 U.wf cx [.slice none 0 0, .slice none 0 0] [.slice none 0 0, .slice none 0 0]
  have cy := (bi.frS au (Dj.symm aV))
  refine fk_ cd (ZaB (y := aL_ 44 (pt_ aq 0) bl) (by kernel_rfl) (cy.l_) (ZF)) ?_
  have bp := (ak.djn (ai.ltF.le e.n))
  have bW := (t_ e.n O.n)
  have bq := (aj.djn (ai.ltF.le bW))
  have aW := (aF.djn ah.ltF)
  have cz := (((((((ai.frS e dn_).ext O).ext ae).frS af bp).frS ag bq).frS U dn_).frS au (Dj.symm aW))
  have br := (an.djn (ah.ltF.le D.n))
  have cA := ((aP.fr U dn_).fr au (Dj.symm br))
  obtain ⟨aQ, ce, aM, ck⟩ := ra_ 44 0 au.wf cz [i_ V.2.2.1, .slice Z ac aa] [i_ V.2.2.1, .slice Z ac aa]
  refine fk_ ce (Zab (by kernel_rfl) (ZF)) ?_
  refine ZI ?_
  refine bT _ _ ?_
  refine Zg (Zh ?_)
  have cB := (cj.frS aM aW)
  refine Z3 (vs := [.agg #[.slice none 0 0, .slice none 0 0], .agg #[i_ V.2.2.1, .slice Z ac aa]]) (ZM (Eq.trans (b := aL_ 33 (pt_ aT 0) aQ) (by kernel_rfl) (cB.l_)) (ZM (Eq.trans (b := aL_ 44 (pt_ aU 0) aQ) (by kernel_rfl) (ck.l_)) (rfl))) ?_
  have bX := (t_ (t_ (t_ ab.n ad.n) D.n) e.n)
  have bY := (t_ (t_ (t_ (t_ ab.n ad.n) D.n) e.n) O.n)
  have bZ := (t_ ab.n ad.n)
  have bs := (an.djn ai.ltF)
  have cC := (cA.fr aM (Dj.symm bs))
  have b5 := (t_ (t_ ab.n ad.n) D.n)
  obtain rfl := oi_ cw
  exact ⟨(.slice none 0 0), [], (.slice none 0 0), [], (.slice Z ac aa), f47, rfl, (fs_ Y (fs_ Y (fs_ Y (fs_ Y (fs_ Y (((fs_ Y ((((f0_ Y).extR ab).extR ad).extR D) e in_).extR O).extR ae) af (ak.fresh bX)) ag (aj.fresh bY)) U in_) au (a2.fresh ab.n)) aM (aF.fresh bZ)), (Ow.nil (by decide)), (Ow.nil (by decide)), cC, in_, in_, (an.fresh b5), dn_, dn_, dn_⟩
 have cm := ZL aN be
 refine Zf (bR _ _ (sq_ fun bO => ?_))
 refine ZQ [0, 2, 1, 3, 4] (by kernel_rfl) ?_
 have cD := ((cv.frS ag aZ).frS U dn_)
 refine mr_ 24 0 (.agg #[i_ V.1, .slice ap aw ar]) cD ?_
 have bj := (aO.frS U dn_)
 refine Zcb (.agg #[i_ V.2.2.1, .slice Z ac aa]) (x := aL_ 44 (pt_ aq 0) aS) (by kernel_rfl) (bj.l_) ?_
 have bt := (aj.djn (aJ.lt.le O.n))
 have cE := (((cQ.fr af (ak.djn aJ.lt)).fr ag bt).fr U dn_)
 obtain ⟨dd, bL, cn⟩ := bs_ cm
 refine dk_ (ZgK U.wf cE.sq bL) ?_
 rintro _ bm ⟨c_, bI, da, bJ, rfl, am, a7, a8, aH, aI, bu⟩
 obtain ⟨ay, aK, aA, rfl⟩ := a7.form
 obtain ⟨az, aL, aB, rfl⟩ := a8.form
 have bk := (bj.frS am dn_)
 refine ⟨ZaB (y := aL_ 44 (pt_ aq 0) bm) (by kernel_rfl) (bk.l_) (ZF), ?_⟩
 have b6 := (t_ D.n e.n)
 have bv := (ak.djn (ah.ltF.le b6))
 have b7 := (t_ (t_ D.n e.n) O.n)
 have aX := (aj.djn (ah.ltF.le b7))
 have cF := ((((((((ah.ext D).frS e dn_).ext O).ext ae).frS af bv).frS ag aX).frS U dn_).frS am dn_)
 obtain ⟨bn, cf, al, co⟩ := ra_ 33 0 am.wf cF [.slice ay aK aA, .slice az aL aB] [.slice ay aK aA, .slice az aL aB]
 have cG := (bk.frS al (Dj.symm aX))
 refine fk_ cf (ZaB (y := aL_ 44 (pt_ aq 0) bn) (by kernel_rfl) (cG.l_) (ZF)) ?_
 have bw := (ak.djn (ai.ltF.le e.n))
 have b8 := (t_ e.n O.n)
 have bx := (aj.djn (ai.ltF.le b8))
 have aY := (aF.djn ah.ltF)
 have cH := ((((((((ai.frS e dn_).ext O).ext ae).frS af bw).frS ag bx).frS U dn_).frS am dn_).frS al (Dj.symm aY))
 have bz := (an.djn (ah.ltF.le D.n))
 have cI := (((aP.fr U dn_).fr am dn_).fr al (Dj.symm bz))
 obtain ⟨aR, cg, av, cp⟩ := ra_ 44 0 al.wf cH [i_ V.2.2.1, .slice Z ac aa] [i_ V.2.2.1, .slice Z ac aa]
 refine fk_ cg (Zab (by kernel_rfl) (ZF)) ?_
 refine ZI ?_
 refine bO _ _ ?_
 refine Zg ?_
 have cJ := (co.frS av aY)
 refine Z3 (vs := [.agg #[.slice ay aK aA, .slice az aL aB], .agg #[i_ V.2.2.1, .slice Z ac aa]]) (ZM (Eq.trans (b := aL_ 33 (pt_ aT 0) aR) (by kernel_rfl) (cJ.l_)) (ZM (Eq.trans (b := aL_ 44 (pt_ aU 0) aR) (by kernel_rfl) (cp.l_)) (rfl))) ?_
 have b9 := (t_ (t_ (t_ ab.n ad.n) D.n) e.n)
 have b_ := (t_ (t_ (t_ (t_ ab.n ad.n) D.n) e.n) O.n)
 have ca := (t_ ab.n ad.n)
 have a_ := (t_ (t_ (t_ (t_ (t_ (t_ D.n e.n) O.n) ae.n) af.n) ag.n) U.n)
 have bA := (aH.djn (ah.ltF.le a_))
 have ba := (t_ (t_ (t_ (t_ (t_ e.n O.n) ae.n) af.n) ag.n) U.n)
 have bB := (aH.djn (ai.ltF.le ba))
 have cK := ((a7.fr al (Dj.symm bA)).fr av (Dj.symm bB))
 have bC := (aI.djn (ah.ltF.le a_))
 have bD := (aI.djn (ai.ltF.le ba))
 have cL := ((a8.fr al (Dj.symm bC)).fr av (Dj.symm bD))
 have bE := (an.djn ai.ltF)
 have cM := (cI.fr av (Dj.symm bE))
 have bb := (t_ (t_ (t_ (t_ (t_ (t_ (t_ (t_ ab.n ad.n) D.n) e.n) O.n) ae.n) af.n) ag.n) U.n)
 have cc := (t_ (t_ ab.n ad.n) D.n)
 have bc := (t_ (t_ (t_ (t_ O.n ae.n) af.n) ag.n) U.n)
 have bF := (aH.djn (ao.lt.le bc))
 have bG := (aI.djn (ao.lt.le bc))
 obtain rfl := oi_ cn
 exact ⟨(.slice ay aK aA), bI, (.slice az aL aB), bJ, (.slice Z ac aa), f47, rfl, (fs_ Y (fs_ Y (fs_ Y (fs_ Y (fs_ Y (fs_ Y (((fs_ Y ((((f0_ Y).extR ab).extR ad).extR D) e in_).extR O).extR ae) af (ak.fresh b9)) ag (aj.fresh b_)) U in_) am in_) al (a2.fresh ab.n)) av (aF.fresh ca)), cK, cL, cM, (aH.fresh bb), (aI.fresh bb), (an.fresh cc), bu, bF, bG⟩
theorem ZfN {H : AH} {U : Value} {ac : Fp} {l : List (Int × Int × Int)} {D : Int} {Y : Int} {V : Int} {r : List (Int × Int × Int)}
    (Z : WF H) (al : Ow Zc 3 H U l ac) (ao : Zbn l D Y V = some r) :
    ACalls Tryz.prog 62 #[U, .agg #[i_ D, .int .u64 Y, i_ V]] H fun v H' => ∃ (aq : Value) (ak : Fp), v = aq /\ FrS ac H H' /\ Ow Zc 3 H' aq r ak /\ Inn ac H ak := by
 refine ab_ Tryz.func62 ?_
 unfold Zbn at ao
 refine sq_ fun aM => g_' ?_
 refine rl_ Z [i_ D, .int .u64 Y, i_ V] fun av a6 aa a8 ai => ?_
 refine q_ (.slice none 0 0) (Za (aM _ _ (sq_ fun aG => g_' (q_ (U) (q_ (pt_ av 0) (lr_ 3 0 (i_ D) ai ?_))))))
 have aj := (al.ext aa)
 obtain ⟨e, aF, ap⟩ := bs_ ao
 refine ck_ (Zep aa.wf aj.sq aF) ?_
 rintro _ aY ⟨rfl, O⟩
 refine q_ (.tuple #[i_ e.1, .bool e.2]) (q_ (i_ e.1) (q_ (.bool e.2) (q_ (i_ e.1) (q_ (.bool e.2) (Za (aG _ _ (sq_ fun aH => sq_ fun aI => g_' (q_ (.bool e.2) (Za (aI _ _ ?_))))))))))
 refine wb_ (e.2) (fun ag => ?_) fun ag => ?_
 ·have aR := Ze ag ap
  refine sq_ fun aJ => g_' (q_ (U) (q_ (i_ e.1) ?_))
  have aV := (ai.frS O dn_)
  refine lr_ 80 0 (.agg #[i_ D, .int .u64 Y, i_ V]) aV ?_
  obtain ⟨ad, aS⟩ := Zb aR
  have ar := (aj.fr O dn_)
  refine ar.sq.ix_ 75 ad.1 ad.2 ?_
  obtain ⟨aZ, aQ, ay, aE⟩ := Ow.store (P := Tryz.prog) (t := 80) (off := 0) O.wf ar ad.1 ad.2 (.agg #[i_ D, .int .u64 Y, i_ V]) [i_ D, .int .u64 Y, i_ V] (by kernel_rfl) (by kernel_rfl) rfl (D, Y, V) (Nat.le_of_ble_eq_true rfl) (by kernel_rfl)
  refine ek_ aQ (Za (aJ _ _ (sq_ fun aK => g_' (q_ (U) (q_ (U) (Za (aK _ _ ?_)))))))
  refine Zg (Zh ?_)
  refine br_ [U] ?_
  obtain rfl := oi_ aS
  exact ⟨(U), ac, rfl, (fs_ Z (fs_ Z ((fr_ Z).extR aa) O in_) ay ir_), aE, ir_⟩
 have aT := ZL ag ap
 refine Zf (aH _ _ (sq_ fun aL => g_' (q_ (U) (q_ (i_ e.1) ?_))))
 have aW := (ai.frS O dn_)
 refine lr_ 80 0 (.agg #[i_ D, .int .u64 Y, i_ V]) aW ?_
 refine Zbl (enc := Zc) (sz := 3) O.wf [(D, Y, V)] 1 (by decide) (fun _ _ => rfl) (fun _ _ => rfl) rfl (by kernel_rfl) fun a_ a7 a1 ab aC am => ?_
 obtain ⟨au, aN, aw, rfl⟩ := am.form
 have aX := ((aj.fr O dn_).ext ab)
 obtain ⟨aB, aU⟩ := Zb aT
 have aO := (t_ aa.n O.n)
 have ax := (aC.djn (al.lt.le aO))
 refine ZgE 86 #[U, i_ e.1, .slice au aN aw] (by kernel_rfl) (Zmf ab.wf aX am (Dj.symm ax) aB) ?_
 rintro ba a2 ⟨aA, az, an, aD⟩
 obtain ⟨ae, ah, af, rfl⟩ := an.form
 refine q_ (.slice ae ah af) (Za (aL _ _ ?_))
 refine Zg ?_
 refine br_ [.slice ae ah af] ?_
 have aP := (t_ (t_ aa.n O.n) ab.n)
 obtain rfl := oi_ aU
 exact ⟨(.slice ae ah af), aA, rfl, (fs_ Z ((fs_ Z ((fr_ Z).extR aa) O in_).extR ab) az ir_), an, (Inn.trans ir_ aP aD)⟩
theorem ZfU {H : AH} {e : Nat} {D : Value} {ae : Fp} {O : List (Bool × List (Int × Int × Int) × List (Int × Int × Int))} {ar : Int} {am : Int} {u : Int} {w : Int} {V : Int} {via : Int} {r : Bool × Er × List (Bool × List (Int × Int × Int) × List (Int × Int × Int)) × Int}
    (Y : WF H) (ac : Nd Zc 3 H D O ae []) (U : Row H e [D, i_ ar, i_ am]) (au : Dj [e] ae) (bg : Zbp O ar am u w V via = some r) :
    ACalls Tryz.prog 36 #[pt_ e 0, i_ u, i_ w, .int .u64 V, i_ via] H fun v H' => ∃ (v3 : Value) (aD : Fp) (aE : Fp), v = .tuple #[.bool r.1, v3] /\ FrS ([e] ++ ae) H H' /\ Ev 78 116 H' v3 r.2.1 aD /\ Nd Zc 3 H' D r.2.2.1 aE [] /\ Row H' e [D, i_ ar, i_ r.2.2.2] /\ Inn [] H aD /\ Inn ae H aE /\ Dj aD aE := by
 refine ab_ Tryz.func36 ?_
 unfold Zbp at bg
 refine sq_ fun cr => g_' (q_ (.bool false) (q_ (.nilIface) (Za (cr _ _ (sq_ fun cu => Zm (sq_ fun cv => g_' (q_ (pt_ e 0) (q_ (.bool false) (q_ (.bool false) (Za (cv _ _ ?_)))))))))))
 refine wb_ false (fun h => by cases h) fun _ => ?_
 refine sq_ fun cw => ?_
 obtain ⟨bt, cg, bv⟩ := bs_ bg
 refine ZC (fun α aY => Has α [(0, pt_ e 0), (1, i_ u), (2, i_ w), (3, .int .u64 V), (4, i_ via), (18, .bool bt)] /\ H = aY) (fun _ bn => ?_) (fun α aY hM => ?_)
 ·refine g_' (q_ (pt_ e 0) (q_ (i_ u) ?_))
  obtain ⟨du, cj, bw⟩ := bs_ cg
  refine ck_ (ZY Y ac U cj) ?_
  rintro _ _ ⟨rfl, rfl⟩
  by_cases aw : du = true
  ·have cZ := Ze aw bw
   rw [aw]
   refine q_ (.bool false) (q_ (.bool false) (q_ (pt_ e 0) (q_ (i_ w) ?_)))
   obtain ⟨aX, ck, c0⟩ := bs_ cZ
   refine ck_ (ZY Y ac U ck) ?_
   rintro _ _ ⟨rfl, rfl⟩
   refine q_ (.bool (!aX)) (q_ (.bool (!aX)) (q_ (.bool (!aX)) (Za ?_)))
   obtain rfl := oi_ c0
   exact bn _ _ ⟨ha_, rfl⟩
  have c3 := Zi aw bw
  rw [nb aw]
  refine q_ (.bool true) (q_ (.bool true) (n_' (n_' (n_' (n_' (q_ (.bool true) (q_ (.bool true) (Za ?_))))))))
  obtain rfl := oi_ c3
  exact bn _ _ ⟨ha_, rfl⟩
 obtain ⟨bd, rfl⟩ := hM
 obtain ⟨β, rfl⟩ := Zk bd
 clear bd
 refine cw _ _ ?_
 refine wb_ (bt) (fun aG => ?_) fun aG => ?_
 ·have c4 := Ze aG bv
  refine sq_ fun cz => g_' (q_ (.iface 78 (i_ 7)) (q_ (.bool false) (q_ (.iface 78 (i_ 7)) (Za (cz _ _ ?_)))))
  refine Zg (ZN (Zh ?_))
  refine br_ [.bool false, .iface 78 (i_ 7)] ?_
  obtain rfl := oi_ c4
  exact ⟨(.iface 78 (i_ 7)), [], ae, rfl, (fr_ Y), Ev.no, ac, U, in_, ir_, dn_⟩
 have bx := ZL aG bv
 refine sq_ fun cA => g_' (q_ (i_ u) (q_ (i_ w) (q_ (.bool (decide (u = w))) (q_ (.bool (decide (u = w))) (Za (cA _ _ ?_))))))
 refine wc_ (u = w) (fun aH => ?_) fun aH => ?_
 ·have c5 := Ze aH bx
  refine sq_ fun cB => g_' (q_ (.iface 78 (i_ 1)) (q_ (.bool false) (q_ (.iface 78 (i_ 1)) (Za (cB _ _ ?_)))))
  refine Zg (ZN (Zh ?_))
  refine br_ [.bool false, .iface 78 (i_ 1)] ?_
  obtain rfl := oi_ c5
  exact ⟨(.iface 78 (i_ 1)), [], ae, rfl, (fr_ Y), Ev.no, ac, U, in_, ir_, dn_⟩
 have bz := Zi aH bx
 refine sq_ fun cC => g_' (q_ (.int .u64 V) (q_ (.bool (decide (V > 140737488355328))) (q_ (.bool (decide (V > 140737488355328))) (Za (cC _ _ ?_)))))
 refine wc_ (V > 140737488355328) (fun aI => ?_) fun aI => ?_
 ·have c6 := Ze aI bz
  refine sq_ fun cD => g_' (q_ (.iface 78 (i_ 8)) (q_ (.bool false) (q_ (.iface 78 (i_ 8)) (Za (cD _ _ ?_)))))
  refine Zg (ZN (Zh ?_))
  refine br_ [.bool false, .iface 78 (i_ 8)] ?_
  obtain rfl := oi_ c6
  exact ⟨(.iface 78 (i_ 8)), [], ae, rfl, (fr_ Y), Ev.no, ac, U, in_, ir_, dn_⟩
 have c7 := Zi aI bz
 refine sq_ fun cE => ?_
 obtain ⟨bu, bi, bA⟩ := bs_ c7
 refine ZC (fun α aZ => Has α [(0, pt_ e 0), (1, i_ u), (2, i_ w), (3, .int .u64 V), (4, i_ via), (39, .bool bu)] /\ H = aZ) (fun _ aA => ?_) (fun α aZ hM => ?_)
 ·refine g_' (q_ (i_ via) ?_)
  refine sb_ (via < (-1)) (fun aJ => ?_) fun aJ => ?_
  ·have c8 := Ze aJ bi
   refine q_ (.bool true) (n_' (n_' (n_' (n_' (n_' (n_' (n_' (q_ (.bool true) (q_ (.bool true) (n_' (n_' (n_' (n_' (n_' (n_' (n_' (n_' (n_' (n_' (n_' (n_' (n_' (q_ (.bool true) (q_ (.bool true) (Za ?_)))))))))))))))))))))))))
   obtain rfl := oi_ c8
   exact aA _ _ ⟨ha_, rfl⟩
  have bB := Zi aJ bi
  refine q_ (.bool false) (q_ (i_ via) (q_ (pt_ e 0) (q_ (pt_ e 0) (q_ (pt_ e 0) (lr_ 123 0 (D) U (ac.ln_ 123 ?_))))))
  refine sb_ (via ≥ (O.length : Int)) (fun aK => ?_) fun aK => ?_
  ·have c9 := Ze aK bB
   refine q_ (.bool true) (q_ (.bool true) (n_' (n_' (n_' (n_' (n_' (n_' (n_' (n_' (n_' (n_' (n_' (n_' (n_' (q_ (.bool true) (q_ (.bool true) (Za ?_)))))))))))))))))
   obtain rfl := oi_ c9
   exact aA _ _ ⟨ha_, rfl⟩
  have bC := Zi aK bB
  refine q_ (.bool false) (q_ (.bool false) (q_ (i_ via) ?_))
  refine sb_ (via ≥ 0) (fun aL => ?_) fun aL => ?_
  ·have c_ := Ze aL bC
   refine q_ (.bool true) (q_ (pt_ e 0) (q_ (pt_ e 0) (q_ (pt_ e 0) (lr_ 123 0 (D) U (q_ (i_ via) ?_)))))
   obtain ⟨aj, da⟩ := Zb c_
   refine ac.ix_ 123 aj.1 aj.2 (l_' (elp D 3 via.toNat 0) (Zw Tryz.prog 138 (elp D 3 via.toNat 0) 0) (Nd.fldq (d := 0) ac aj.1 aj.2 (by kernel_rfl)) ?_)
   obtain ⟨dL, dM, b9, dE⟩ := Nd.at ac aj.1 aj.2
   refine l_' (.bool ((gt O via).1)) (aL_ 4 (elp D 3 via.toNat 0) H) (b9 _ _ _ _ (by kernel_rfl)) (q_ (.bool (!(gt O via).1)) (q_ (.bool (!(gt O via).1)) (q_ (.bool (!(gt O via).1)) (q_ (.bool (!(gt O via).1)) (Za ?_)))))
   obtain rfl := oi_ da
   exact aA _ _ ⟨ha_, rfl⟩
  have db := Zi aL bC
  refine q_ (.bool false) (n_' (n_' (n_' (n_' (n_' (n_' (n_' (n_' (n_' (q_ (.bool false) (q_ (.bool false) (q_ (.bool false) (Za ?_)))))))))))))
  obtain rfl := oi_ db
  exact aA _ _ ⟨ha_, rfl⟩
 obtain ⟨be, rfl⟩ := hM
 obtain ⟨β, rfl⟩ := Zk be
 clear be
 refine cE _ _ ?_
 refine wb_ (bu) (fun aM => ?_) fun aM => ?_
 ·have dc := Ze aM bA
  refine sq_ fun cF => g_' (q_ (.iface 78 (i_ 1)) (q_ (.bool false) (q_ (.iface 78 (i_ 1)) (Za (cF _ _ ?_)))))
  refine Zg (ZN (Zh ?_))
  refine br_ [.bool false, .iface 78 (i_ 1)] ?_
  obtain rfl := oi_ dc
  exact ⟨(.iface 78 (i_ 1)), [], ae, rfl, (fr_ Y), Ev.no, ac, U, in_, ir_, dn_⟩
 have dd := ZL aM bA
 refine Zf (cu _ _ (sq_ fun cG => g_' (q_ (pt_ e 0) (q_ (i_ u) (q_ (i_ w) ?_)))))
 obtain ⟨ad, cm, de⟩ := bs_ dd
 refine ck_ (ZdC Y ac U cm) ?_
 rintro _ a1 ⟨rfl, ab⟩
 refine q_ (.tuple #[.int .u64 ad.1, .bool ad.2]) (q_ (.int .u64 ad.1) (q_ (.bool ad.2) (q_ (.int .u64 ad.1) (q_ (.bool ad.2) (Za (cG _ _ (sq_ fun cH => sq_ fun cI => ?_)))))))
 obtain ⟨al, bj, bD⟩ := bs_ de
 refine ZC (fun α a2 => Has α [(0, pt_ e 0), (1, i_ u), (2, i_ w), (3, .int .u64 V), (4, i_ via), (13, .bool al.1), (79, .bool al.2)] /\ a1 = a2) (fun _ bo => ?_) (fun α a2 hM => ?_)
 ·refine g_' (q_ (.bool ad.2) (q_ (.bool ad.2) ?_))
  by_cases ax : ad.2 = true
  ·have df := Ze ax bj
   rw [ax]
   refine q_ (.int .u64 ad.1) (q_ (.int .u64 V) (q_ (.bool (decide (ad.1 ≤ V))) (q_ (.bool (decide (ad.1 ≤ V))) (Za ?_))))
   obtain rfl := oi_ df
   exact bo _ _ ⟨ha_, rfl⟩
  have dg := Zi ax bj
  rw [nb ax]
  refine n_' (n_' (n_' (q_ (.bool false) (Za ?_))))
  obtain rfl := oi_ dg
  exact bo _ _ ⟨ha_, rfl⟩
 obtain ⟨bf, rfl⟩ := hM
 obtain ⟨β, rfl⟩ := Zk bf
 clear bf
 refine cI _ _ ?_
 refine wb_ (al.2) (fun aN => ?_) fun aN => ?_
 ·have dh := Ze aN bD
  refine sq_ fun cn => g_' (q_ (.bool false) (q_ (.nilIface) (Za (cn _ _ ?_))))
  refine Zg (Zh ?_)
  refine br_ [.bool false, .nilIface] ?_
  have di := (ac.fr ab dn_)
  have dk := (U.frS ab dn_)
  obtain rfl := oi_ dh
  exact ⟨(.nilIface), [], ae, rfl, (fs_ Y (fr_ Y) ab in_), Ev.nil, di, dk, in_, ir_, dn_⟩
 have cP := ZL aN bD
 refine Zf (cH _ _ (sq_ fun co => sq_ fun cp => g_' (q_ (.bool al.1) (q_ (.bool (!al.1)) (Za (cp _ _ ?_))))))
 obtain ⟨cL, bh, cQ⟩ := bs_ cP
 refine ZC (fun α af => Has α [(0, pt_ e 0), (1, i_ u), (2, i_ w), (3, .int .u64 V), (4, i_ via)] /\ FrS [e] a1 af /\ Row af e [D, i_ ar, i_ cL]) (fun _ bm => ?_) (fun α af hM => ?_)
 ·refine wb_ ((!al.1)) (fun aF => ?_) fun aF => ?_
  ·have cR := Ze aF bh
   refine g_' (q_ (pt_ e 0) (q_ (pt_ e 0) (q_ (pt_ e 2) ?_)))
   have bE := (U.frS ab dn_)
   refine lr_ 3 2 (i_ am) bE ?_
   obtain ⟨bX, cS⟩ := Zb cR
   refine w_' ((am + 1)) (Zn bX) (q_ (pt_ e 0) (q_ (pt_ e 2) ?_))
   obtain ⟨dv, cM, bU, cT⟩ := rb_ 3 2 ab.wf bE (i_ (am + 1)) [D, i_ ar, i_ (am + 1)]
   refine ek_ cM (Za ?_)
   obtain rfl := oi_ cS
   exact bm _ _ ⟨ha_, (fs_ ab.wf (fr_ ab.wf) bU ir_), cT⟩
  have cU := ZL aF bh
  refine Zf ?_
  have dm := (U.frS ab dn_)
  obtain rfl := oi_ cU
  exact bm _ _ ⟨ha_, (fr_ ab.wf), dm⟩
 obtain ⟨bc, ao, aP⟩ := hM
 obtain ⟨β, rfl⟩ := Zk bc
 clear bc
 refine co _ _ (sq_ fun cq => ?_)
 refine ZQ [0, 1, 2, 3, 4, 5, 6, 7, 8, 9, 10, 11, 12, 13, 14, 15, 16, 17, 18, 19, 20] (by kernel_rfl) ?_
 refine e_' (pt_ e 0) (e_' (pt_ e 0) (e_' (pt_ e 0) ?_))
 refine Zcb (D) (x := aL_ 123 (pt_ e 0) af) (by kernel_rfl) (aP.l_) ?_
 refine e_' (i_ u) (e_' (pt_ e 0) (e_' (pt_ e 0) (e_' (pt_ e 0) (mr_ 123 0 (D) aP (e_' (i_ u) ?_)))))
 obtain ⟨Z, cV⟩ := Zb cQ
 have aB := ((ac.fr ab dn_).fr ao au)
 refine aB.mx_ 123 Z.1 Z.2 (m_' (elp D 3 u.toNat 1) (Zw Tryz.prog 138 (elp D 3 u.toNat 0) 1) (Nd.fldq (d := 1) aB Z.1 Z.2 (by kernel_rfl)) ?_)
 obtain ⟨dn, dJ, b7, b5⟩ := Nd.at aB Z.1 Z.2
 have bp : KdS Zc 3 af dn ((gt O u).2.1) ae D 3 u.toNat 1 := b5 false (by simp)
 obtain ⟨bK, cJ, bM, rfl⟩ := bp.sq.form
 refine m_' (.slice bK cJ bM) (aL_ 75 (elp D 3 u.toNat 1) af) (b7 _ _ _ _ (by kernel_rfl)) (e_' (i_ w) (e_' (.int .u64 V) (e_' (i_ via) (e_' (.agg #[i_ w, .int .u64 V, i_ via]) ?_))))
 obtain ⟨bV, dA, ay, b_, a6, cc, cd⟩ := Nd.borrow false aB Z.1 Z.2 (by simp) bp rfl
 have aT := Inn.sub' (H := af) cc
 have aU := Inn.sub' (H := af) cd
 have ay : Nd Zc 3 af D O bV [(u.toNat, false)] := ay
 obtain ⟨an, ch, cW⟩ := bs_ cV
 refine dk_ (ZfN ao.wf b_ ch) ?_
 rintro dH bH ⟨_, dB, rfl, ai, br, bk⟩
 obtain ⟨dw, dF, dy, rfl⟩ := br.form
 have ag := (t_ ab.n ao.n)
 have bO := (aU.dj (Dj.symm au) (U.ltF.le ag))
 have bF := (aP.frS ai bO)
 refine ⟨ZaB (y := aL_ 123 (pt_ e 0) bH) (by kernel_rfl) (bF.l_) (ZF), ?_⟩
 have aQ := (ay.fr ai (Dj.symm a6))
 refine aQ.mx_ 123 Z.1 Z.2 (m_' (elp D 3 u.toNat 1) (Zw Tryz.prog 138 (elp D 3 u.toNat 0) 1) (Nd.fldq (d := 1) aQ Z.1 Z.2 (by kernel_rfl)) ?_)
 have bP := (bk.dj (Dj.symm a6) ay.lt)
 obtain ⟨ah, ba, cN, av, ak, bY⟩ := Nd.close (P := Tryz.prog) (t := 75) false ai.wf aQ br (Dj.symm bP) Z.1 Z.2 (by kernel_rfl) (by kernel_rfl) (by kernel_rfl)
 have ak : Nd Zc 3 ah D (O.set u.toNat ((gt O u).1, an, (gt O u).2.2)) ba [] := ak
 have aC := bY.grow3 (Inn.trans ir_ (Nat.le_refl _) aT) (Inn.trans (Inn.trans ir_ (Nat.le_refl _) aU) (Nat.le_refl _) bk) ai.n
 refine fk_ cN (Zab (by kernel_rfl) (ZF)) ?_
 refine ZI ?_
 refine cq _ _ (sq_ fun cx => ?_)
 refine ZQ [0, 1, 2, 3, 4, 5, 6, 7, 8, 9, 10, 11, 12, 13, 14, 15, 16, 17, 18, 19, 20] (by kernel_rfl) ?_
 refine e_' (pt_ e 0) (e_' (pt_ e 0) (e_' (pt_ e 0) ?_))
 have bQ := (aT.dj (Dj.symm au) (U.ltF.le ag))
 have aR := (bF.frS av bQ)
 refine Zcb (D) (x := aL_ 123 (pt_ e 0) ah) (by kernel_rfl) (aR.l_) ?_
 refine e_' (i_ w) (e_' (pt_ e 0) (e_' (pt_ e 0) (e_' (pt_ e 0) (mr_ 123 0 (D) aR (e_' (i_ w) ?_)))))
 obtain ⟨aa, cX⟩ := Zb cW
 refine ak.mx_ 123 aa.1 aa.2 (m_' (elp D 3 w.toNat 2) (Zw Tryz.prog 138 (elp D 3 w.toNat 0) 2) (Nd.fldq (d := 2) ak aa.1 aa.2 (by kernel_rfl)) ?_)
 obtain ⟨dK, dp, b8, b6⟩ := Nd.at ak aa.1 aa.2
 have bq : KdS Zc 3 ah dp ((gt (O.set u.toNat ((gt O u).1, an, (gt O u).2.2)) w).2.2) ba D 3 w.toNat 2 := b6 true (by simp)
 obtain ⟨bL, cK, bN, rfl⟩ := bq.sq.form
 refine m_' (.slice bL cK bN) (aL_ 75 (elp D 3 w.toNat 2) ah) (b8 _ _ _ _ (by kernel_rfl)) (e_' (i_ u) (e_' (.int .u64 V) (e_' (i_ via) (e_' (.agg #[i_ u, .int .u64 V, i_ via]) ?_))))
 obtain ⟨bW, dC, az, ca, a7, ce, cf⟩ := Nd.borrow true ak aa.1 aa.2 (by simp) bq rfl
 have aV := Inn.sub' (H := ah) ce
 have aW := Inn.sub' (H := ah) cf
 have az : Nd Zc 3 ah D (O.set u.toNat ((gt O u).1, an, (gt O u).2.2)) bW [(w.toNat, true)] := az
 obtain ⟨dt, ci, cY⟩ := bs_ cX
 refine dk_ (ZfN av.wf ca ci) ?_
 rintro dI bI ⟨_, dD, rfl, ap, bs, bl⟩
 obtain ⟨dx, dG, dz, rfl⟩ := bs.form
 have a8 := (aC.dj (Dj.symm au) (U.ltF.le ag))
 have aq := (t_ (t_ (t_ ab.n ao.n) ai.n) av.n)
 have bR := (aW.dj a8 (U.ltF.le aq))
 have bG := (aR.frS ap bR)
 refine ⟨ZaB (y := aL_ 123 (pt_ e 0) bI) (by kernel_rfl) (bG.l_) (ZF), ?_⟩
 have aS := (az.fr ap (Dj.symm a7))
 refine aS.mx_ 123 aa.1 aa.2 (m_' (elp D 3 w.toNat 2) (Zw Tryz.prog 138 (elp D 3 w.toNat 0) 2) (Nd.fldq (d := 2) aS aa.1 aa.2 (by kernel_rfl)) ?_)
 have bS := (bl.dj (Dj.symm a7) az.lt)
 obtain ⟨bJ, bb, cO, a_, aO, bZ⟩ := Nd.close (P := Tryz.prog) (t := 75) true ap.wf aS bs (Dj.symm bS) aa.1 aa.2 (by kernel_rfl) (by kernel_rfl) (by kernel_rfl)
 have aO : Nd Zc 3 bJ D ((O.set u.toNat ((gt O u).1, an, (gt O u).2.2)).set w.toNat ((gt (O.set u.toNat ((gt O u).1, an, (gt O u).2.2)) w).1, (gt (O.set u.toNat ((gt O u).1, an, (gt O u).2.2)) w).2.1, dt)) bb [] := aO
 have dr := bZ.grow3 (Inn.trans ir_ (Nat.le_refl _) aV) (Inn.trans (Inn.trans ir_ (Nat.le_refl _) aW) (Nat.le_refl _) bl) ap.n
 refine fk_ cO (Zab (by kernel_rfl) (ZF)) ?_
 refine ZI ?_
 refine cx _ _ (sq_ fun cy => g_' (q_ (.bool true) (q_ (.nilIface) (Za (cy _ _ ?_)))))
 refine Zg ?_
 refine br_ [.bool true, .nilIface] ?_
 have bT := (aV.dj a8 (U.ltF.le aq))
 have dq := (bG.frS a_ bT)
 obtain rfl := oi_ cY
 exact ⟨(.nilIface), [], bb, rfl, (fs_ Y (fs_ Y (fs_ Y (fs_ Y (fs_ Y (fs_ Y (fr_ Y) ab in_) ao Inn.left) ai (Inn.trans (Inn.right ir_) ag aU)) av (Inn.trans (Inn.right ir_) ag aT)) ap (Inn.trans (Inn.trans (Inn.right ir_) ag aC) aq aW)) a_ (Inn.trans (Inn.trans (Inn.right ir_) ag aC) aq aV)), Ev.nil, aO, dq, in_, (Inn.trans (Inn.trans ir_ ag aC) aq dr), dn_⟩
theorem ZcI {H : AH} {U : Value} {ai : Fp} {aa : Value} {aj : Fp} {D : List (Bool)} {Arcs : List (Int × Int × Int × Int)} {e : Int} {r : Bool}
    (Y : WF H) (af : Sq ZaC 1 H U D ai) (ak : Sq Zo 4 H aa Arcs aj) (ab : Z5 D Arcs e = some r) :
    ACalls Tryz.prog 31 #[.agg #[U, aa], i_ e] H fun v H' => v = .bool r /\ FrS [] H H' := by
 refine ab_ Tryz.func31 ?_
 unfold Z5 at ab
 refine sq_ fun k1 => g_' ?_
 refine ZaG Y [U, aa] (Zs (af.one1) (Zs (ak.one1) (Z1))) (by kernel_rfl) fun b2 ap V aq ah => ?_
 refine q_ (.bool false) (Za (k1 _ _ (sq_ fun ac => g_' (q_ (i_ e) ?_))))
 refine sb_ (e ≥ 0) (fun Z => ?_) fun Z => ?_
 ·have ag := Ze Z ab
  refine q_ (.bool true) (q_ (i_ e) (q_ (pt_ b2 0) (lr_ 30 0 (U) ah ?_)))
  have ad := (af.ext V)
  refine ad.ln_ 30 ?_
  refine sb_ (e < (D.length : Int)) (fun O => ?_) fun O => ?_
  ·have al := Ze O ag
   refine q_ (.bool true) (q_ (.bool true) (q_ (pt_ b2 0) (lr_ 30 0 (U) ah (q_ (i_ e) ?_))))
   obtain ⟨ae, am⟩ := Zb al
   refine ad.ix_ 30 ae O (le_ 4 0 (.bool (gt D e)) ad ae O (q_ (.bool (gt D e)) (q_ (.bool (gt D e)) (Za (ac _ _ ?_)))))
   refine Zg ?_
   refine br_ [.bool (gt D e)] ?_
   obtain rfl := oi_ am
   exact ⟨rfl, ((f0_ Y).extR V)⟩
  have an := Zi O ag
  refine q_ (.bool false) (q_ (.bool false) (n_' (n_' (n_' (n_' (n_' (q_ (.bool false) (q_ (.bool false) (Za (ac _ _ ?_))))))))))
  refine Zg ?_
  refine br_ [.bool false] ?_
  obtain rfl := oi_ an
  exact ⟨rfl, ((f0_ Y).extR V)⟩
 have ao := Zi Z ab
 refine q_ (.bool false) (n_' (n_' (n_' (n_' (n_' (q_ (.bool false) (q_ (.bool false) (n_' (n_' (n_' (n_' (n_' (q_ (.bool false) (q_ (.bool false) (Za (ac _ _ ?_))))))))))))))))
 refine Zg ?_
 refine br_ [.bool false] ?_
 obtain rfl := oi_ ao
 exact ⟨rfl, ((f0_ Y).extR V)⟩
end Go.Vd

/-! (KSn6) -/

set_option maxRecDepth 100000
set_option maxHeartbeats 4000000
set_option linter.unusedVariables false
namespace Go.Vd
open Go.Proofs
attribute [local irreducible] Zp Zr aWp
theorem ZfM {H : AH} {Z : Value} {be : Fp} {ad : Value} {bf : Fp} {V : List (Bool)} {Arcs : List (Int × Int × Int × Int)} {u : Int} {w : Int} {aa : Int} {via : Int} {r : Int}
    (e : WF H) (aw : Sq ZaC 1 H Z V be) (aE : Sq Zo 4 H ad Arcs bf) (aH : ZbF V Arcs u w aa via = some r) :
    ACalls Tryz.prog 37 #[.agg #[Z, ad], i_ u, i_ w, .int .u64 aa, i_ via] H fun v H' => v = .agg #[i_ r, .slice none 0 0] /\ FrS [] H H' := by
 refine ab_ Tryz.func37 ?_
 unfold ZbF at aH
 refine sq_ fun k1 => g_' ?_
 refine ZaG e [Z, ad] (Zs (aw.one1) (Zs (aE.one1) (Z1))) (by kernel_rfl) fun b2 cg U cm aQ => ?_
 refine rk_ U.wf [i_ 0, .slice none 0 0] fun Y a7 O ac ae => ?_
 refine Za (k1 _ _ (sq_ fun bp => Zm (sq_ fun bq => ?_)))
 obtain ⟨aK, bg, aN⟩ := bs_ aH
 refine ZC (fun α ai => Has α [(1, i_ u), (2, i_ w), (3, .int .u64 aa), (4, i_ via), (5, pt_ b2 0), (10, pt_ Y 0), (11, .bool aK)] /\ FrS [] a7 ai) (fun _ aJ => ?_) (fun α ai hM => ?_)
 ·refine g_' ?_
  have aV := (aQ.ext O)
  refine lr_ 33 0 (.agg #[Z, ad]) aV (q_ (i_ u) ?_)
  have aW := ((aw.ext U).ext O)
  have aX := ((aE.ext U).ext O)
  obtain ⟨cd, bi, aO⟩ := bs_ bg
  refine ck_ (ZcI O.wf aW aX bi) ?_
  rintro _ cf ⟨rfl, ab⟩
  by_cases ag : cd = true
  ·have bM := Ze ag aO
   rw [ag]
   refine q_ (.bool false) (q_ (.bool false) ?_)
   have b7 := (aV.frS ab dn_)
   refine lr_ 33 0 (.agg #[Z, ad]) b7 (q_ (i_ w) ?_)
   have b8 := (aW.fr ab dn_)
   have b9 := (aX.fr ab dn_)
   obtain ⟨az, bj, bN⟩ := bs_ bM
   refine ck_ (ZcI ab.wf b8 b9 bj) ?_
   rintro _ ch ⟨rfl, ba⟩
   refine q_ (.bool (!az)) (q_ (.bool (!az)) (q_ (.bool (!az)) (Za ?_)))
   obtain rfl := oi_ bN
   exact aJ _ _ ⟨ha_, (fs_ O.wf (fs_ O.wf (fr_ O.wf) ab in_) ba in_)⟩
  have bO := Zi ag aO
  rw [nb ag]
  refine q_ (.bool true) (q_ (.bool true) (n_' (n_' (n_' (n_' (q_ (.bool true) (q_ (.bool true) (Za ?_))))))))
  obtain rfl := oi_ bO
  exact aJ _ _ ⟨ha_, (fs_ O.wf (fr_ O.wf) ab in_)⟩
 obtain ⟨aF, D⟩ := hM
 obtain ⟨β, rfl⟩ := Zk aF
 clear aF
 refine bq _ _ ?_
 refine wb_ (aK) (fun ap => ?_) fun ap => ?_
 ·have bP := Ze ap aN
  refine sq_ fun br => g_' ?_
  obtain ⟨aA, bk, bQ⟩ := bs_ bP
  refine ck_ (ZaW D.wf bk) ?_
  rintro _ ci ⟨rfl, ak⟩
  have b_ := ((ae.frS D dn_).frS ak dn_)
  obtain ⟨a1, bA, bb, bR⟩ := ra_ 44 0 ak.wf b_ [i_ aA, .slice none 0 0] [i_ aA, .slice none 0 0]
  refine ek_ bA (Za (br _ _ ?_))
  refine Zg (ZN (Zh ?_))
  refine Z3 (vs := [.agg #[i_ aA, .slice none 0 0]]) (ZM (Eq.trans (b := aL_ 44 (pt_ Y 0) a1) (by kernel_rfl) (bR.l_)) (rfl)) ?_
  obtain rfl := oi_ bQ
  exact ⟨rfl, (fs_ e (fs_ e (fs_ e (((f0_ e).extR U).extR O) D in_) ak in_) bb (ac.fresh U.n))⟩
 have aP := ZL ap aN
 refine sq_ fun bs => g_' (q_ (i_ u) (q_ (i_ w) (q_ (.bool (decide (u = w))) (q_ (.bool (decide (u = w))) (Za (bs _ _ ?_))))))
 refine wc_ (u = w) (fun aq => ?_) fun aq => ?_
 ·have bS := Ze aq aP
  refine sq_ fun bt => g_' ?_
  obtain ⟨aB, bl, bT⟩ := bs_ bS
  refine ck_ (ZaW D.wf bl) ?_
  rintro _ cj ⟨rfl, al⟩
  have ca := ((ae.frS D dn_).frS al dn_)
  obtain ⟨a2, bB, bc, bU⟩ := ra_ 44 0 al.wf ca [i_ aB, .slice none 0 0] [i_ aB, .slice none 0 0]
  refine ek_ bB (Za (bt _ _ ?_))
  refine Zg (ZN (Zh ?_))
  refine Z3 (vs := [.agg #[i_ aB, .slice none 0 0]]) (ZM (Eq.trans (b := aL_ 44 (pt_ Y 0) a2) (by kernel_rfl) (bU.l_)) (rfl)) ?_
  obtain rfl := oi_ bT
  exact ⟨rfl, (fs_ e (fs_ e (fs_ e (((f0_ e).extR U).extR O) D in_) al in_) bc (ac.fresh U.n))⟩
 have aR := Zi aq aP
 refine sq_ fun bu => g_' (q_ (.int .u64 aa) (q_ (.bool (decide (aa > 140737488355328))) (q_ (.bool (decide (aa > 140737488355328))) (Za (bu _ _ ?_)))))
 refine wc_ (aa > 140737488355328) (fun ar => ?_) fun ar => ?_
 ·have bV := Ze ar aR
  refine sq_ fun bv => g_' ?_
  obtain ⟨aC, bm, bW⟩ := bs_ bV
  refine ck_ (ZaW D.wf bm) ?_
  rintro _ ck ⟨rfl, am⟩
  have cc := ((ae.frS D dn_).frS am dn_)
  obtain ⟨a6, bC, bd, bX⟩ := ra_ 44 0 am.wf cc [i_ aC, .slice none 0 0] [i_ aC, .slice none 0 0]
  refine ek_ bC (Za (bv _ _ ?_))
  refine Zg (ZN (Zh ?_))
  refine Z3 (vs := [.agg #[i_ aC, .slice none 0 0]]) (ZM (Eq.trans (b := aL_ 44 (pt_ Y 0) a6) (by kernel_rfl) (bX.l_)) (rfl)) ?_
  obtain rfl := oi_ bW
  exact ⟨rfl, (fs_ e (fs_ e (fs_ e (((f0_ e).extR U).extR O) D in_) am in_) bd (ac.fresh U.n))⟩
 have bY := Zi ar aR
 refine sq_ fun bw => ?_
 obtain ⟨aL, aI, aS⟩ := bs_ bY
 refine ZC (fun α aD => Has α [(10, pt_ Y 0), (32, .bool aL)] /\ ai = aD) (fun _ ah => ?_) (fun α aD hM => ?_)
 ·refine g_' (q_ (i_ via) ?_)
  refine s_bn (via = (-1)) (by kernel_rfl) (fun au => ?_) (fun au => ?_)
  ·have bZ := Ze au aI
   refine q_ (.bool false) (n_' (n_' (n_' (n_' (n_' (n_' (n_' (n_' (n_' (n_' (n_' (n_' (n_' (n_' (n_' (n_' (q_ (.bool false) (q_ (.bool false) (Za ?_)))))))))))))))))))
   obtain rfl := oi_ bZ
   exact ah _ _ ⟨ha_, rfl⟩
  have aT := Zi au aI
  refine q_ (.bool true) (q_ (i_ via) ?_)
  refine sb_ (via < 0) (fun av => ?_) fun av => ?_
  ·have bD := Ze av aT
   refine q_ (.bool true) (n_' (n_' (n_' (n_' (n_' (q_ (.bool true) (q_ (.bool true) (n_' (n_' (n_' (n_' (n_' (q_ (.bool true) (q_ (.bool true) (q_ (.bool true) (Za ?_))))))))))))))))
   obtain rfl := oi_ bD
   exact ah _ _ ⟨ha_, rfl⟩
  have aM := Zi av aT
  refine q_ (.bool false) (q_ (i_ via) (q_ (pt_ b2 0) ?_))
  have aU := ((aQ.ext O).frS D dn_)
  refine lr_ 30 0 (Z) aU ?_
  have ax := (((aw.ext U).ext O).fr D dn_)
  refine ax.ln_ 30 ?_
  refine sb_ (via ≥ (V.length : Int)) (fun an => ?_) fun an => ?_
  ·have bE := Ze an aM
   refine q_ (.bool true) (q_ (.bool true) (n_' (n_' (n_' (n_' (n_' (q_ (.bool true) (q_ (.bool true) (q_ (.bool true) (Za ?_))))))))))
   obtain rfl := oi_ bE
   exact ah _ _ ⟨ha_, rfl⟩
  have bF := Zi an aM
  refine q_ (.bool false) (q_ (.bool false) (q_ (pt_ b2 0) (lr_ 30 0 (Z) aU (q_ (i_ via) ?_))))
  obtain ⟨af, bG⟩ := Zb bF
  refine ax.ix_ 30 af.1 af.2 (le_ 4 0 (.bool (gt V via)) ax af.1 af.2 (q_ (.bool (gt V via)) (q_ (.bool (gt V via)) (q_ (.bool (gt V via)) (Za ?_)))))
  obtain rfl := oi_ bG
  exact ah _ _ ⟨ha_, rfl⟩
 obtain ⟨aG, rfl⟩ := hM
 obtain ⟨β, rfl⟩ := Zk aG
 clear aG
 refine bw _ _ ?_
 refine wb_ (aL) (fun ao => ?_) fun ao => ?_
 ·have bH := Ze ao aS
  refine sq_ fun bn => g_' ?_
  obtain ⟨ay, bh, bI⟩ := bs_ bH
  refine ck_ (ZaW D.wf bh) ?_
  rintro _ ce ⟨rfl, aj⟩
  have b5 := ((ae.frS D dn_).frS aj dn_)
  obtain ⟨aY, bx, a8, bJ⟩ := ra_ 44 0 aj.wf b5 [i_ ay, .slice none 0 0] [i_ ay, .slice none 0 0]
  refine ek_ bx (Za (bn _ _ ?_))
  refine Zg (ZN (Zh ?_))
  refine Z3 (vs := [.agg #[i_ ay, .slice none 0 0]]) (ZM (Eq.trans (b := aL_ 44 (pt_ Y 0) aY) (by kernel_rfl) (bJ.l_)) (rfl)) ?_
  obtain rfl := oi_ bI
  exact ⟨rfl, (fs_ e (fs_ e (fs_ e (((f0_ e).extR U).extR O) D in_) aj in_) a8 (ac.fresh U.n))⟩
 have bK := ZL ao aS
 refine Zf (bp _ _ (sq_ fun bo => g_' (q_ (.agg #[i_ 0, .slice none 0 0]) ?_)))
 have b6 := (ae.frS D dn_)
 obtain ⟨aZ, bz, a_, bL⟩ := ra_ 44 0 D.wf b6 [i_ 0, .slice none 0 0] [i_ 0, .slice none 0 0]
 refine ek_ bz (Za (bo _ _ ?_))
 refine Zg ?_
 refine Z3 (vs := [.agg #[i_ 0, .slice none 0 0]]) (ZM (Eq.trans (b := aL_ 44 (pt_ Y 0) aZ) (by kernel_rfl) (bL.l_)) (rfl)) ?_
 obtain rfl := oi_ bK
 exact ⟨rfl, (fs_ e (fs_ e (((f0_ e).extR U).extR O) D in_) a_ (ac.fresh U.n))⟩
theorem ZgM {H : AH} {aK : Value} {cC : Fp} {ag : Value} {a7 : Fp} {bm : List (Bool)} {Arcs : List (Int × Int × Int × Int)} {an : Int} {ak : Int} {al : Int} {aD : Int} {r : List (Int × Int × Int × Int) × Bool}
    (ah : WF H) (aA : Sq ZaC 1 H aK bm cC) (aJ : Sq Zo 4 H ag Arcs a7) (bL : Zck bm Arcs an ak al aD = some r) :
    ACalls Tryz.prog 39 #[.agg #[aK, ag], .agg #[i_ an, i_ ak, .int .u64 al, i_ aD]] H fun v H' => ∃ (b5 : Value) (bB : Fp), v = .tuple #[.agg #[aK, b5], .bool r.2] /\ FrS [] H H' /\ Sq Zo 4 H' b5 r.1 bB /\ Inn a7 H bB := by
 refine ab_ Tryz.func39 ?_
 unfold Zck at bL
 refine sq_ fun cX => g_' ?_
 refine ZaG ah [aK, ag] (Zs (aA.one1) (Zs (aJ.one1) (Z1))) (by kernel_rfl) fun aS ec aj eo bi => ?_
 refine rl_ aj.wf [i_ an, i_ ak, .int .u64 al, i_ aD] fun ay d4 ae ep aw => ?_
 refine rk_ ae.wf [.slice none 0 0, .slice none 0 0] fun aE d8 U bb am => ?_
 refine q_ (.bool false) (Za (cX _ _ (sq_ fun cT => g_' (q_ (pt_ aS 0) ?_))))
 have b9 := ((bi.ext ae).ext U)
 refine lr_ 30 0 (aK) b9 ?_
 have b_ := (((aA.ext aj).ext ae).ext U)
 obtain ⟨aa, ad, ab, rfl⟩ := b_.form
 refine q_ (.agg #[.slice aa ad ab, .slice none 0 0]) ?_
 refine rk_ U.wf [.slice none 0 0, .slice none 0 0] fun ai eb V Z ax => ?_
 have ca := (b_.ext V)
 obtain ⟨aO, dt, D, dK⟩ := ra_ 33 0 V.wf ax [.slice aa ad ab, .slice none 0 0] [.slice aa ad ab, .slice none 0 0]
 refine ek_ dt (Za (cT _ _ (sq_ fun cU => g_' (q_ (.bool true) (Za (cU _ _ (sq_ fun cV => sq_ fun cW => g_' (q_ (pt_ aS 1) ?_))))))))
 have dh := (t_ ae.n U.n)
 have bv := (Z.djn (bi.ltF.le dh))
 have cc := ((b9.ext V).frS D bv)
 refine lr_ 31 1 (ag) cc ?_
 have av := (t_ (t_ aj.n ae.n) U.n)
 have bw := (Z.djn (aJ.lt.le av))
 have cd := (((((aJ.ext aj).ext ae).ext U).ext V).fr D bw)
 refine cd.ln_ 31 (q_ (i_ 0) (Za (cW _ _ ?_)))
 obtain ⟨ce, cK, bZ⟩ := bs_ bL
 refine ZC (fun α aP => ∃ bh, ce = Sum.inr bh /\ ∃ (bj : Value) (a6 : Fp), Has α [(3, pt_ ay 0), (4, pt_ aE 0), (6, pt_ ai 0), (7, .bool true)] /\ FrS [ai] aO aP /\ Ow Zo 4 aP bj bh a6 /\ Row aP ai [.slice aa ad ab, bj] /\ Inn [] aO a6) (fun _ cY => ?_) (fun α aP hM => ?_)
 ·refine Zm ?_
  obtain ⟨bU, cI⟩ := Zu.1 cK
  refine ZJ (fun n α aQ => ∃ (e : Int), ∃ (aC : List (Int × Int × Int × Int)), ∃ (bk : Value), ∃ (aH : Fp), ZR (fun zz_ => Zby Arcs an ak al zz_.1 zz_.2) n (e, aC) = some ce /\ Has α [(2, pt_ aS 0), (3, pt_ ay 0), (4, pt_ aE 0), (6, pt_ ai 0), (7, .bool true), (14, ag), (15, i_ (Arcs.length : Int)), (16, i_ e)] /\ FrS [ai] aO aQ /\ Ow Zo 4 aQ bk aC aH /\ Row aQ ai [.slice aa ad ab, bk] /\ Inn [] aO aH) bU ⟨0, [], (.slice none 0 0), [], cI, ha_, (fr_ D.wf), (Ow.nil (by decide)), dK, in_⟩ ?_
  rintro bU α aQ ⟨e, aC, bk, aH, cH, bG, O, aB, bd, aN⟩ ee bP
  obtain ⟨bV, d3, rfl, aL, aV⟩ := Zy cH
  obtain ⟨β, rfl⟩ := Zk bG
  clear bG
  replace aL : Zby Arcs an ak al e aC = some d3 := aL
  unfold Zby at aL
  obtain ⟨aY, bg, aZ, rfl⟩ := aB.form
  refine sq_ fun cZ => g_' (q_ (.bool (decide (e < (Arcs.length : Int)))) (Za (cZ _ _ (sq_ fun c0 => ?_))))
  refine wc_ (e < (Arcs.length : Int)) (fun aI => ?_) fun aI => ?_
  ·have dL := Ze aI aL
   refine Zf (c0 _ _ (sq_ fun bQ => Zm (sq_ fun c3 => g_' ?_)))
   obtain ⟨bC, dM⟩ := Zb dL
   have bl := (cd.fr O bw)
   refine bl.ix_ 31 bC aI (le_ 96 0 (.agg #[i_ ((gt Arcs e).1), i_ ((gt Arcs e).2.1), .int .u64 ((gt Arcs e).2.2.1), i_ ((gt Arcs e).2.2.2)]) bl bC aI ?_)
   refine rk_ O.wf [i_ 0, i_ 0, .int .u64 0, i_ 0] fun aT ed ac af du => ?_
   obtain ⟨cf, di, Y, aX⟩ := ra_ 96 0 ac.wf du [i_ ((gt Arcs e).1), i_ ((gt Arcs e).2.1), .int .u64 ((gt Arcs e).2.2.1), i_ ((gt Arcs e).2.2.2)] [i_ ((gt Arcs e).1), i_ ((gt Arcs e).2.1), .int .u64 ((gt Arcs e).2.2.1), i_ ((gt Arcs e).2.2.2)]
   refine ek_ di (Za (c3 _ _ (sq_ fun cM => sq_ fun cN => ?_)))
   obtain ⟨bW, bN, bX⟩ := bs_ dM
   refine ZC (fun α bn => Has α [(2, pt_ aS 0), (3, pt_ ay 0), (4, pt_ aE 0), (6, pt_ ai 0), (7, .bool true), (9, pt_ aT 0), (14, ag), (15, i_ (Arcs.length : Int)), (16, i_ e), (31, .bool bW)] /\ cf = bn) (fun _ bO => ?_) (fun α bn hM => ?_)
   ·refine g_' (q_ (pt_ aT 0) (lr_ 3 0 (i_ ((gt Arcs e).1)) aX (q_ (pt_ ay 0) ?_)))
    have bo := (Z.djn (aw.ltF.le U.n))
    have c4 := (t_ (t_ (t_ U.n V.n) D.n) O.n)
    have ck := (af.djn (aw.ltF.le c4))
    have b6 := ((((((aw.ext U).ext V).frS D bo).frS O bo).ext ac).frS Y ck)
    refine lr_ 3 0 (i_ an) b6 ?_
    refine sb_ (((gt Arcs e).1) = an) (fun a8 => ?_) fun a8 => ?_
    ·have dv := Ze a8 bN
     refine q_ (.bool true) (q_ (pt_ aT 1) (lr_ 3 1 (i_ ((gt Arcs e).2.1)) aX (q_ (pt_ ay 1) (lr_ 3 1 (i_ ak) b6 (q_ (.bool (decide (((gt Arcs e).2.1) = ak))) (q_ (.bool (decide (((gt Arcs e).2.1) = ak))) (Za ?_)))))))
     obtain rfl := oi_ dv
     exact bO _ _ ⟨ha_, rfl⟩
    have dw := Zi a8 bN
    refine q_ (.bool false) (n_' (n_' (n_' (n_' (n_' (q_ (.bool false) (Za ?_)))))))
    obtain rfl := oi_ dw
    exact bO _ _ ⟨ha_, rfl⟩
   obtain ⟨bE, rfl⟩ := hM
   obtain ⟨β, rfl⟩ := Zk bE
   clear bE
   refine cN _ _ ?_
   refine wb_ (bW) (fun a_ => ?_) fun a_ => ?_
   ·have bY := Ze a_ bX
    refine sq_ fun cO => sq_ fun cP => g_' (q_ (pt_ aT 2) (lr_ 27 2 (.int .u64 ((gt Arcs e).2.2.1)) aX (q_ (pt_ ay 2) ?_)))
    have bp := (Z.djn (aw.ltF.le U.n))
    have c5 := (t_ (t_ (t_ U.n V.n) D.n) O.n)
    have cm := (af.djn (aw.ltF.le c5))
    have dN := ((((((aw.ext U).ext V).frS D bp).frS O bp).ext ac).frS Y cm)
    refine lr_ 27 2 (.int .u64 al) dN (q_ (.bool (decide (((gt Arcs e).2.2.1) ≤ al))) (Za (cP _ _ ?_)))
    refine wc_ (((gt Arcs e).2.2.1) ≤ al) (fun ba => ?_) fun ba => ?_
    ·have dx := Ze ba bY
     refine sq_ fun cQ => g_' ?_
     have c6 := (t_ (t_ (t_ (t_ ae.n U.n) V.n) D.n) O.n)
     have cn := (af.djn (bi.ltF.le c6))
     have dO := (((cc.frS O bv).ext ac).frS Y cn)
     refine lr_ 33 0 (.agg #[.slice aa ad ab, ag]) dO ?_
     have c7 := (t_ (t_ V.n D.n) O.n)
     have co := (af.djn (am.ltF.le c7))
     have dP := (((((am.ext V).frS D (Z.djn am.ltF)).frS O (Z.djn am.ltF)).ext ac).frS Y co)
     have be := (t_ (t_ (t_ (t_ (t_ aj.n ae.n) U.n) V.n) D.n) O.n)
     have cp := (af.djn (aJ.lt.le be))
     have b7 := ((bl.ext ac).fr Y cp)
     have bq := (Z.djn (aA.lt.le av))
     have cq := (af.djn (aA.lt.le be))
     have dQ := ((((ca.fr D bq).fr O bq).ext ac).fr Y cq)
     obtain ⟨cg, dk, bx, dy⟩ := Row.store (P := Tryz.prog) (t := 33) (p := 0) Y.wf dP (.agg #[.slice aa ad ab, ag]) [.slice aa ad ab, ag] (by kernel_rfl) (by kernel_rfl) (Zs (dQ.one1) (Zs (b7.one1) (Z1))) (Nat.le_of_ble_eq_true (by kernel_rfl)) [.slice aa ad ab, ag] (by kernel_rfl)
     refine ek_ dk (q_ (.bool false) (Za (cQ _ _ ?_)))
     refine Zg (Zh (Zh (ZN (Zh (Zh (ZN (Zh (Zh ?_))))))))
     obtain ⟨eA, bM, cL⟩ := map_some dx
     subst cL
     obtain rfl := Zx aV
     have cJ := elim_inl bZ
     rw [cJ] at bM
     refine Z3 (vs := [.agg #[.slice aa ad ab, ag], .bool false]) (ZM (Eq.trans (b := aL_ 33 (pt_ aE 0) cg) (by kernel_rfl) (dy.l_)) (rt_ (rfl))) ?_
     have bT := (t_ aj.n ae.n)
     have cr := (bb.djn (aJ.lt.le bT))
     have dR := (b7.fr bx cr)
     obtain rfl := oi_ bM
     exact ⟨(ag), a7, rfl, (fs_ ah (fs_ ah ((fs_ ah (fs_ ah (((((f0_ ah).extR aj).extR ae).extR U).extR V) D (Z.fresh av)) O (Z.fresh av)).extR ac) Y (af.fresh be)) bx (bb.fresh bT)), dR, ir_⟩
    have dz := Zi ba bY
    refine Zf (cO _ _ ?_)
    refine ZK (Zj (ZV ?_))
    refine bQ _ _ (g_' ?_)
    obtain ⟨cD, dA⟩ := Zb dz
    refine w_' ((e + 1)) (Zn (by have := cD; omega)) (q_ (i_ (e + 1)) (Za ?_))
    have dS := ((aB.ext ac).fr Y (af.djn aB.lt))
    have c8 := (t_ D.n O.n)
    have cu := (af.djn (ax.ltF.le c8))
    have dT := ((bd.ext ac).frS Y cu)
    obtain rfl := oi_ dA
    exact bP bV _ _ lt_ ⟨(e + 1), aC, (.slice aY bg aZ), aH, aV, ha_, (fs_ D.wf ((fs_ D.wf (fr_ D.wf) O ir_).extR ac) Y (af.fresh O.n)), dS, dT, (aN.fresh (Nat.le_refl _))⟩
   have dB := ZL a_ bX
   refine Zf (cM _ _ (g_' (q_ (pt_ ai 1) ?_)))
   have c9 := (t_ D.n O.n)
   have cv := (af.djn (ax.ltF.le c9))
   have b8 := ((bd.ext ac).frS Y cv)
   refine lr_ 31 1 (.slice aY bg aZ) b8 (lr_ 96 0 (.agg #[i_ ((gt Arcs e).1), i_ ((gt Arcs e).2.1), .int .u64 ((gt Arcs e).2.2.1), i_ ((gt Arcs e).2.2.2)]) aX ?_)
   refine Zbl (enc := Zo) (sz := 4) Y.wf [((gt Arcs e).1, (gt Arcs e).2.1, (gt Arcs e).2.2.1, (gt Arcs e).2.2.2)] 1 (by decide) (fun _ _ => rfl) (fun _ _ => rfl) rfl (by kernel_rfl) fun ev el d5 az eq bH => ?_
   obtain ⟨ef, et, ej, rfl⟩ := bH.form
   have dU := (((aB.ext ac).fr Y (af.djn aB.lt)).ext az)
   obtain ⟨cE, dC⟩ := Zb dB
   obtain ⟨ew, d6, cA, dm, a2, bI, bD⟩ := Ow.append (P := Tryz.prog) 32 az.wf dU bH.sq (fun _ _ => rfl) (at_ := #[31, 31]) rfl rfl (by kernel_rfl) (by kernel_rfl) (by decide) (by have := cE; first | omega | (simp only [List.length_cons, List.length_nil] at this ⊢; omega) | (simp at this ⊢; omega))
   obtain ⟨aR, aW, aU, rfl⟩ := bI.form
   refine ZaN (.slice aR aW aU) (by kernel_rfl) (dm) ?_
   refine q_ (pt_ ai 1) ?_
   have br := (aN.djn (ax.ltF.le D.n))
   have dV := ((b8.ext az).frS a2 br)
   obtain ⟨d7, dn, bz, dD⟩ := rb_ 31 1 a2.wf dV (.slice aR aW aU) [.slice aa ad ab, .slice aR aW aU]
   refine ek_ dn (Za (bQ _ _ (g_' ?_)))
   obtain ⟨cF, dE⟩ := Zb dC
   refine w_' ((e + 1)) (Zn (by have := cF; omega)) (q_ (i_ (e + 1)) (Za ?_))
   have c_ := (t_ (t_ (t_ (t_ D.n O.n) ac.n) Y.n) az.n)
   have cw := (bD.dj br (ax.ltF.le c_))
   have dW := (bI.fr bz (Dj.symm cw))
   have da := (t_ (t_ (t_ O.n ac.n) Y.n) az.n)
   obtain rfl := oi_ dE
   exact bP bV _ _ lt_ ⟨(e + 1), (aC ++ [((gt Arcs e).1, (gt Arcs e).2.1, (gt Arcs e).2.2.1, (gt Arcs e).2.2.2)]), (.slice aR aW aU), cA, aV, ha_, (fs_ D.wf (fs_ D.wf ((fs_ D.wf ((fs_ D.wf (fr_ D.wf) O ir_).extR ac) Y (af.fresh O.n)).extR az) a2 (aN.fresh (Nat.le_refl _))) bz ir_), dW, dD, (Inn.trans (aN.fresh (Nat.le_refl _)) da bD)⟩
  have dF := Zi aI aL
  refine ZK (Zj (Zj (ZV ?_)))
  obtain rfl := oi_ dF
  obtain rfl := Zx aV
  exact cY _ _ ⟨_, rfl, (.slice aY bg aZ), aH, ha_, (fs_ D.wf (fr_ D.wf) O ir_), aB, bd, (aN.fresh (Nat.le_refl _))⟩
 obtain ⟨bh, rfl, bj, a6, bF, ar, bR, bS, aM⟩ := hM
 have dG := elim_inr bZ
 obtain ⟨β, rfl⟩ := Zk bF
 clear bF
 obtain ⟨ci, db, cj, rfl⟩ := bR.form
 refine cV _ _ (sq_ fun cR => g_' (q_ (pt_ ai 1) (lr_ 31 1 (.slice ci db cj) bS ?_)))
 have bs := (Z.djn (aw.ltF.le U.n))
 have dX := ((((aw.ext U).ext V).frS D bs).frS ar bs)
 refine lr_ 96 0 (.agg #[i_ an, i_ ak, .int .u64 al, i_ aD]) dX ?_
 refine Zbl (enc := Zo) (sz := 4) ar.wf [(an, ak, al, aD)] 1 (by decide) (fun _ _ => rfl) (fun _ _ => rfl) rfl (by kernel_rfl) fun ex em d9 ao es bJ => ?_
 obtain ⟨eh, eu, ek, rfl⟩ := bJ.form
 have dY := (bR.ext ao)
 obtain ⟨cG, dH⟩ := Zb dG
 obtain ⟨ey, d_, cB, dp, aF, bK, bc⟩ := Ow.append (P := Tryz.prog) 32 ao.wf dY bJ.sq (fun _ _ => rfl) (at_ := #[31, 31]) rfl rfl (by kernel_rfl) (by kernel_rfl) (by decide) (by have := cG; first | omega | (simp only [List.length_cons, List.length_nil] at this ⊢; omega) | (simp at this ⊢; omega))
 obtain ⟨ap, au, aq, rfl⟩ := bK.form
 refine ZaN (.slice ap au aq) (by kernel_rfl) (dp) ?_
 refine q_ (pt_ ai 1) ?_
 have bt := (aM.djn (ax.ltF.le D.n))
 have dZ := ((bS.ext ao).frS aF bt)
 obtain ⟨ea, dq, aG, dI⟩ := rb_ 31 1 aF.wf dZ (.slice ap au aq) [.slice aa ad ab, .slice ap au aq]
 refine ek_ dq (Za (cR _ _ (sq_ fun cS => g_' (lr_ 33 0 (.agg #[.slice aa ad ab, .slice ap au aq]) dI (q_ (.bool true) ?_)))))
 have dc := (t_ V.n D.n)
 have bu := (aM.djn (am.ltF.le dc))
 have d0 := ((((((am.ext V).frS D (Z.djn am.ltF)).frS ar (Z.djn am.ltF)).ext ao).frS aF bu).frS aG (Z.djn am.ltF))
 have dd := (t_ (t_ D.n ar.n) ao.n)
 have cx := (bc.dj bt (ax.ltF.le dd))
 have d1 := (bK.fr aG (Dj.symm cx))
 have a1 := (Z.djn (aA.lt.le av))
 have bf := (t_ (t_ (t_ (t_ aj.n ae.n) U.n) V.n) D.n)
 have cy := (aM.djn (aA.lt.le bf))
 have ez := (((((ca.fr D a1).fr ar a1).ext ao).fr aF cy).fr aG a1)
 obtain ⟨ch, dr, bA, dJ⟩ := ra_ 33 0 aG.wf d0 [.slice aa ad ab, .slice ap au aq] [.slice aa ad ab, .slice ap au aq]
 refine ek_ dr (q_ (.bool true) (Za (cS _ _ ?_)))
 refine Zg ?_
 refine Z3 (vs := [.agg #[.slice aa ad ab, .slice ap au aq], .bool true]) (ZM (Eq.trans (b := aL_ 33 (pt_ aE 0) ch) (by kernel_rfl) (dJ.l_)) (rt_ (rfl))) ?_
 have de := (t_ aj.n ae.n)
 have df := (t_ (t_ (t_ V.n D.n) ar.n) ao.n)
 have cz := (bc.dj bu (am.ltF.le df))
 have d2 := (d1.fr bA (Dj.symm cz))
 have dg := (t_ (t_ (t_ (t_ (t_ (t_ aj.n ae.n) U.n) V.n) D.n) ar.n) ao.n)
 obtain rfl := oi_ dH
 exact ⟨(.slice ap au aq), cB, rfl, (fs_ ah (fs_ ah (fs_ ah ((fs_ ah (fs_ ah (((((f0_ ah).extR aj).extR ae).extR U).extR V) D (Z.fresh av)) ar (Z.fresh av)).extR ao) aF (aM.fresh bf)) aG (Z.fresh av)) bA (bb.fresh de)), d2.sq, (Inn.trans (aM.fresh bf) dg bc)⟩
theorem ZeM {H : AH} {D : Value} {V : Fp} {l : List (Int × Int × Int)} {ad : Int} {r : List (Int × Int × Int)}
    (U : WF H) (ab : Ow Zc 3 H D l V) (ag : ZbX l ad = some r) :
    ACalls Tryz.prog 63 #[D, i_ ad] H fun v H' => ∃ (ai : Value) (ae : Fp), v = ai /\ FrS V H H' /\ Ow Zc 3 H' ai r ae /\ Inn V H ae := by
 refine ab_ Tryz.func63 ?_
 unfold ZbX at ag
 refine sq_ fun au => g_' (q_ (.slice none 0 0) (Za (au _ _ (sq_ fun av => g_' (q_ (D) (q_ (i_ ad) ?_))))))
 obtain ⟨e, an, ah⟩ := bs_ ag
 refine ck_ (Zep U ab.sq an) ?_
 rintro _ aC ⟨rfl, O⟩
 refine q_ (.tuple #[i_ e.1, .bool e.2]) (q_ (i_ e.1) (q_ (.bool e.2) (q_ (i_ e.1) (q_ (.bool e.2) (Za (av _ _ (sq_ fun ao => sq_ fun ap => g_' (q_ (.bool e.2) (q_ (.bool (!e.2)) (Za (ap _ _ ?_)))))))))))
 refine wb_ ((!e.2)) (fun aa => ?_) fun aa => ?_
 ·have aw := Ze aa ah
  refine sq_ fun aq => g_' (q_ (D) (q_ (D) (Za (aq _ _ ?_))))
  refine Zg (Zh ?_)
  refine br_ [D] ?_
  have aA := (ab.fr O dn_)
  obtain rfl := oi_ aw
  exact ⟨(D), V, rfl, (fs_ U (fr_ U) O in_), aA, ir_⟩
 have ax := ZL aa ah
 refine Zf (ao _ _ (sq_ fun ar => g_' (q_ (D) (q_ (i_ e.1) (q_ (i_ e.1) ?_)))))
 obtain ⟨ak, ay⟩ := Zb ax
 refine w_' ((e.1 + 1)) (Zn ak) ?_
 have aB := (ab.fr O dn_)
 obtain ⟨al, az⟩ := Zb ay
 refine ZgE 87 #[D, i_ e.1, i_ (e.1 + 1)] (by kernel_rfl) (Zl9 O.wf aB al) ?_
 rintro aE aD ⟨f28, aj, af, am⟩
 obtain ⟨Y, ac, Z, rfl⟩ := af.form
 refine q_ (.slice Y ac Z) (Za (ar _ _ ?_))
 refine Zg ?_
 refine br_ [.slice Y ac Z] ?_
 obtain rfl := oi_ az
 exact ⟨(.slice Y ac Z), f28, rfl, (fs_ U (fs_ U (fr_ U) O in_) aj ir_), af, (Inn.trans ir_ O.n am)⟩
theorem Zfb {H : AH} {O : Nat} {Y : Value} {aN : Fp} {D : List (Bool × List (Int × Int × Int) × List (Int × Int × Int))} {aw : Int} {ao : Int} {e : Int} {r : Er × List (Bool × List (Int × Int × Int) × List (Int × Int × Int)) × Int × Int}
    (ah : WF H) (aZ : Nd Zc 3 H Y D aN []) (aa : Row H O [Y, i_ aw, i_ ao]) (bl : Dj aN [O]) (ca : ZaR D aw ao e = some r) :
    ACalls Tryz.prog 40 #[pt_ O 0, i_ e] H fun v H' => ∃ (v3 : Value) (bo : Fp) (bp : Fp), v = v3 /\ FrS ([O] ++ aN) H H' /\ Ev 78 116 H' v3 r.1 bo /\ Nd Zc 3 H' Y r.2.1 bp [] /\ Row H' O [Y, i_ r.2.2.1, i_ r.2.2.2] /\ Inn [] H bo /\ Inn aN H bp /\ Dj bo bp := by
 refine ab_ Tryz.func40 ?_
 unfold ZaR at ca
 refine sq_ fun dJ => g_' (q_ (.nilIface) (Za (dJ _ _ (sq_ fun dK => sq_ fun dL => g_' (q_ (pt_ O 0) (q_ (.bool false) (Za (dL _ _ ?_))))))))
 refine wb_ false (fun h => by cases h) fun _ => ?_
 refine Zf (dK _ _ (sq_ fun dM => sq_ fun dN => g_' (q_ (pt_ O 0) (q_ (i_ e) ?_))))
 obtain ⟨cF, dF, co⟩ := bs_ ca
 refine ck_ (ZY ah aZ aa dF) ?_
 rintro _ _ ⟨rfl, rfl⟩
 refine q_ (.bool (!cF)) (Za (dN _ _ ?_))
 refine wb_ ((!cF)) (fun bq => ?_) fun bq => ?_
 ·have eG := Ze bq co
  refine sq_ fun dW => g_' (q_ (.iface 78 (i_ 7)) (q_ (.iface 78 (i_ 7)) (Za (dW _ _ ?_))))
  refine Zg (Zh ?_)
  refine br_ [.iface 78 (i_ 7)] ?_
  obtain rfl := oi_ eG
  exact ⟨(.iface 78 (i_ 7)), [], aN, rfl, (fr_ ah), Ev.no, aZ, aa, in_, ir_, dn_⟩
 have eI := ZL bq co
 refine Zf (dM _ _ (sq_ fun dX => g_' (q_ (pt_ O 0) (q_ (pt_ O 0) (q_ (pt_ O 0) (lr_ 123 0 (Y) aa (q_ (i_ e) ?_)))))))
 obtain ⟨ag, eL⟩ := Zb eI
 refine aZ.ix_ 123 ag.1 ag.2 ?_
 obtain ⟨fG, fH, aL, fy, fz, dn, bt, a8, aQ, bj, bk, fo, dz, dA, dB⟩ := Nd.open2 aZ ag.1 ag.2
 have ax := Inn.sub' (H := H) dz
 have fI := Inn.sub' (H := H) dA
 have fJ := Inn.sub' (H := H) dB
 obtain ⟨ay, aI, aA, rfl⟩ := a8.form
 obtain ⟨az, aJ, aB, rfl⟩ := aQ.form
 refine l_' (.agg #[.bool ((gt D e).1), .slice ay aI aA, .slice az aJ aB]) (aL_ 138 (elp Y 3 e.toNat 0) H) (dn _ _ _ (by kernel_rfl)) ?_
 refine rk_ ah [.bool false, .slice none 0 0, .slice none 0 0] fun al fc ac an cu => ?_
 have e1 := (aQ.ext ac)
 have e2 := (a8.ext ac)
 obtain ⟨aV, eu, Z, cv⟩ := ra_ 138 0 ac.wf cu [.bool ((gt D e).1), .slice ay aI aA, .slice az aJ aB] [.bool ((gt D e).1), .slice ay aI aA, .slice az aJ aB]
 refine ek_ eu (Za (dX _ _ (sq_ fun d2 => sq_ fun d3 => g_' (q_ (pt_ al 1) (lr_ 75 1 (.slice ay aI aA) cv ?_)))))
 have bH := (e2.fr Z (an.djn a8.lt))
 refine bH.sq.ln_ 75 (q_ (i_ 0) (Za (d3 _ _ ?_)))
 obtain ⟨bz, dD, eR⟩ := bs_ eL
 refine ZC (fun α ar => ∃ (am : Fp), Has α [(0, pt_ O 0), (1, i_ e), (5, pt_ al 0)] /\ FrS aL aV ar /\ Nd Zc 3 ar Y bz am [(e.toNat, true), (e.toNat, false)] /\ Inn aL aV am) (fun _ d4 => ?_) (fun α ar hM => ?_)
 ·refine Zm ?_
  obtain ⟨ck, dr⟩ := Zu.1 dD
  have e3 := ((bt.ext ac).fr Z (an.djn bt.lt))
  refine ZJ (fun n α bh => ∃ (af : List (Bool × List (Int × Int × Int) × List (Int × Int × Int))), ∃ (U : Int), ∃ (aM : Fp), ZR (fun zz_ => Zah D e zz_.1 zz_.2) n (af, U) = some bz /\ Has α [(0, pt_ O 0), (1, i_ e), (5, pt_ al 0), (26, .slice ay aI aA), (27, i_ (((gt D e).2.1).length : Int)), (28, i_ U)] /\ FrS aL aV bh /\ Nd Zc 3 bh Y af aM [(e.toNat, true), (e.toNat, false)] /\ Inn aL aV aM) ck ⟨D, 0, aL, dr, ha_, (fr_ Z.wf), e3, ir_⟩ ?_
  rintro ck α bh ⟨af, U, aM, dg, b8, aj, ba, aU⟩ ff d5
  obtain ⟨ek, e7, rfl, aS, b_⟩ := Zy dg
  obtain ⟨β, rfl⟩ := Zk b8
  clear b8
  replace aS : Zah D e af U = some e7 := aS
  unfold Zah at aS
  refine sq_ fun d6 => g_' (q_ (.bool (decide (U < (((gt D e).2.1).length : Int)))) (Za (d6 _ _ (sq_ fun d7 => ?_))))
  refine wc_ (U < (((gt D e).2.1).length : Int)) (fun aO => ?_) fun aO => ?_
  ·have ev := Ze aO aS
   refine Zf (d7 _ _ (sq_ fun dH => Zm (sq_ fun dI => g_' ?_)))
   obtain ⟨bV, ew⟩ := Zb ev
   have cw := (bH.fr aj bj)
   refine cw.sq.ix_ 75 bV aO (le_ 80 0 (.agg #[i_ ((gt ((gt D e).2.1) U).1), .int .u64 ((gt ((gt D e).2.1) U).2.1), i_ ((gt ((gt D e).2.1) U).2.2)]) cw.sq bV aO ?_)
   refine rk_ aj.wf [i_ 0, .int .u64 0, i_ 0] fun aW e8 aC a1 cn => ?_
   obtain ⟨ap, el, au, bA⟩ := ra_ 80 0 aC.wf cn [i_ ((gt ((gt D e).2.1) U).1), .int .u64 ((gt ((gt D e).2.1) U).2.1), i_ ((gt ((gt D e).2.1) U).2.2)] [i_ ((gt ((gt D e).2.1) U).1), .int .u64 ((gt ((gt D e).2.1) U).2.1), i_ ((gt ((gt D e).2.1) U).2.2)]
   refine ek_ el (Za (dI _ _ ?_))
   refine ZQ [0, 1, 2, 3, 4, 5, 6, 7, 8, 9, 10, 11, 12, 13, 14, 15, 16, 17, 18, 19] (by kernel_rfl) ?_
   refine e_' (pt_ O 0) (e_' (pt_ O 0) (e_' (pt_ O 0) ?_))
   have bK := (ax.dj bl aa.ltF)
   have d_ := (t_ (t_ ac.n Z.n) aj.n)
   have cN := (a1.djn (aa.ltF.le d_))
   have bC := (((((aa.ext ac).frS Z (an.djn aa.ltF)).frS aj bK).ext aC).frS au cN)
   refine Zcb (Y) (x := aL_ 123 (pt_ O 0) ap) (by kernel_rfl) (bC.l_) ?_
   refine e_' (pt_ aW 0) ?_
   refine Zcb (i_ ((gt ((gt D e).2.1) U).1)) (x := aL_ 3 (pt_ aW 0) ap) (by kernel_rfl) (bA.l_) ?_
   refine e_' (pt_ O 0) (e_' (pt_ O 0) (e_' (pt_ O 0) (mr_ 123 0 (Y) bC (e_' (pt_ aW 0) (mr_ 3 0 (i_ ((gt ((gt D e).2.1) U).1)) bA ?_)))))
   obtain ⟨ad, ex⟩ := Zb ew
   have bb := ((ba.ext aC).fr au (a1.djn ba.lt))
   refine bb.mx_ 123 ad.1 ad.2 (m_' (elp Y 3 ((gt ((gt D e).2.1) U).1).toNat 2) (Zw Tryz.prog 138 (elp Y 3 ((gt ((gt D e).2.1) U).1).toNat 0) 2) (Nd.fldq (d := 2) bb ad.1 ad.2 (by kernel_rfl)) ?_)
   obtain ⟨bW, ey⟩ := Zb ex
   obtain ⟨fE, eS, dk, dh⟩ := Nd.at bb ad.1 ad.2
   have ce : KdS Zc 3 ap eS ((gt af ((gt ((gt D e).2.1) U).1)).2.2) aM Y 3 ((gt ((gt D e).2.1) U).1).toNat 2 := dh true (by have := bW; have := ad.1; have := ag.1; simp; omega)
   obtain ⟨cJ, ea, cL, rfl⟩ := ce.sq.form
   refine m_' (.slice cJ ea cL) (aL_ 75 (elp Y 3 ((gt ((gt D e).2.1) U).1).toNat 2) ap) (dk _ _ _ _ (by kernel_rfl)) (e_' (i_ e) ?_)
   obtain ⟨c7, fu, a6, dt, bL, dv, dw⟩ := Nd.borrow true bb ad.1 ad.2 (by have := bW; have := ad.1; have := ag.1; simp; omega) ce rfl
   have cC := Inn.sub' (H := ap) dv
   have bd := Inn.sub' (H := ap) dw
   have a6 : Nd Zc 3 ap Y af c7 [(((gt ((gt D e).2.1) U).1).toNat, true), (e.toNat, true), (e.toNat, false)] := a6
   obtain ⟨cE, dE, ez⟩ := bs_ ey
   refine dk_ (ZeM au.wf dt dE) ?_
   rintro fC bI ⟨_, fv, rfl, aD, cg, cc⟩
   obtain ⟨fg, fA, fj, rfl⟩ := cg.form
   have eb := (t_ ac.n Z.n)
   have cO := (aU.dj bK (aa.ltF.le eb))
   have ec := (t_ (t_ (t_ (t_ ac.n Z.n) aj.n) aC.n) au.n)
   have cP := (bd.dj cO (aa.ltF.le ec))
   have eT := (bC.frS aD cP)
   have cQ := (a1.djn ba.lt)
   have cR := (bd.dj (Dj.symm cQ) (cn.ltF.le au.n))
   have eU := (bA.frS aD cR)
   refine ⟨ZaB (y := aL_ 3 (pt_ aW 0) bI) (by kernel_rfl) (eU.l_) (ZaB (y := aL_ 123 (pt_ O 0) bI) (by kernel_rfl) (eT.l_) (ZF)), ?_⟩
   have bD := (a6.fr aD (Dj.symm bL))
   refine bD.mx_ 123 ad.1 ad.2 (m_' (elp Y 3 ((gt ((gt D e).2.1) U).1).toNat 2) (Zw Tryz.prog 138 (elp Y 3 ((gt ((gt D e).2.1) U).1).toNat 0) 2) (Nd.fldq (d := 2) bD ad.1 ad.2 (by kernel_rfl)) ?_)
   have cS := (cc.dj (Dj.symm bL) a6.lt)
   obtain ⟨cH, bT, em, c5, br, dd⟩ := Nd.close (P := Tryz.prog) (t := 75) true aD.wf bD cg (Dj.symm cS) ad.1 ad.2 (by kernel_rfl) (by kernel_rfl) (by kernel_rfl)
   have br : Nd Zc 3 cH Y (af.set ((gt ((gt D e).2.1) U).1).toNat ((gt af ((gt ((gt D e).2.1) U).1)).1, (gt af ((gt ((gt D e).2.1) U).1)).2.1, cE)) bT [(e.toNat, true), (e.toNat, false)] := br
   have e4 := dd.grow3 (Inn.trans ir_ (Nat.le_refl _) cC) (Inn.trans (Inn.trans ir_ (Nat.le_refl _) bd) (Nat.le_refl _) cc) aD.n
   refine fk_ em (Zab (by kernel_rfl) (Zab (by kernel_rfl) (ZF))) ?_
   refine ZI ?_
   refine dH _ _ (g_' ?_)
   obtain ⟨c9, eA⟩ := Zb ez
   refine w_' ((U + 1)) (Zn (by have := c9; omega)) (q_ (i_ (U + 1)) (Za ?_))
   have bv := (t_ (t_ aj.n aC.n) au.n)
   obtain rfl := oi_ eA
   exact d5 ek _ _ lt_ ⟨(af.set ((gt ((gt D e).2.1) U).1).toNat ((gt af ((gt ((gt D e).2.1) U).1)).1, (gt af ((gt ((gt D e).2.1) U).1)).2.1, cE)), (U + 1), bT, b_, ha_, (fs_ Z.wf (fs_ Z.wf (fs_ Z.wf ((fs_ Z.wf (fr_ Z.wf) aj ir_).extR aC) au (a1.fresh aj.n)) aD (Inn.trans (Inn.trans ir_ (Nat.le_refl _) aU) bv bd)) c5 (Inn.trans (Inn.trans ir_ (Nat.le_refl _) aU) bv cC)), br, (Inn.trans (Inn.trans ir_ (Nat.le_refl _) aU) bv e4)⟩
  have eB := Zi aO aS
  refine ZK (Zj (Zj (ZV ?_)))
  obtain rfl := oi_ eB
  obtain rfl := Zx b_
  exact d4 _ _ ⟨aM, ha_, (fs_ Z.wf (fr_ Z.wf) aj ir_), ba, (Inn.trans ir_ (Nat.le_refl _) aU)⟩
 obtain ⟨am, b7, ab, d9, ak⟩ := hM
 obtain ⟨β, rfl⟩ := Zk b7
 clear b7
 refine d2 _ _ (sq_ fun dO => sq_ fun dP => g_' (q_ (pt_ al 2) ?_))
 have bM := (an.djn bt.lt)
 have cx := (cv.frS ab (Dj.symm bM))
 refine lr_ 75 2 (.slice az aJ aB) cx ?_
 have bE := ((e1.fr Z (an.djn aQ.lt)).fr ab bk)
 refine bE.sq.ln_ 75 (q_ (i_ 0) (Za (dP _ _ ?_)))
 obtain ⟨cm, dC, eC⟩ := bs_ eR
 refine ZC (fun α bf => ∃ (aY : Fp), Has α [(0, pt_ O 0), (1, i_ e), (5, pt_ al 0)] /\ FrS am ar bf /\ Nd Zc 3 bf Y cm aY [(e.toNat, true), (e.toNat, false)] /\ Inn am ar aY) (fun _ dQ => ?_) (fun α bf hM => ?_)
 ·refine Zm ?_
  obtain ⟨ci, dq⟩ := Zu.1 dC
  refine ZJ (fun n α bg => ∃ (o2 : List (Bool × List (Int × Int × Int) × List (Int × Int × Int))), ∃ (V : Int), ∃ (aK : Fp), ZR (fun zz_ => Zaf D e zz_.1 zz_.2) n (o2, V) = some cm /\ Has α [(0, pt_ O 0), (1, i_ e), (5, pt_ al 0), (53, .slice az aJ aB), (54, i_ (((gt D e).2.2).length : Int)), (55, i_ V)] /\ FrS am ar bg /\ Nd Zc 3 bg Y o2 aK [(e.toNat, true), (e.toNat, false)] /\ Inn am ar aK) ci ⟨bz, 0, am, dq, ha_, (fr_ ab.wf), d9, ir_⟩ ?_
  rintro ci α bg ⟨o2, V, aK, df, b6, ai, a_, aT⟩ fd dR
  obtain ⟨ed, e6, rfl, aR, b9⟩ := Zy df
  obtain ⟨β, rfl⟩ := Zk b6
  clear b6
  replace aR : Zaf D e o2 V = some e6 := aR
  unfold Zaf at aR
  refine sq_ fun dS => g_' (q_ (.bool (decide (V < (((gt D e).2.2).length : Int)))) (Za (dS _ _ (sq_ fun dT => ?_))))
  refine wc_ (V < (((gt D e).2.2).length : Int)) (fun aP => ?_) fun aP => ?_
  ·have eD := Ze aP aR
   refine Zf (dT _ _ (sq_ fun dU => Zm (sq_ fun dV => g_' ?_)))
   obtain ⟨bX, eE⟩ := Zb eD
   have cj := (t_ ac.n Z.n)
   have cT := (ak.dj bk (aQ.lt.le cj))
   have cy := (bE.fr ai cT)
   refine cy.sq.ix_ 75 bX aP (le_ 80 0 (.agg #[i_ ((gt ((gt D e).2.2) V).1), .int .u64 ((gt ((gt D e).2.2) V).2.1), i_ ((gt ((gt D e).2.2) V).2.2)]) cy.sq bX aP ?_)
   refine rk_ ai.wf [i_ 0, .int .u64 0, i_ 0] fun aX e9 aF a2 cp => ?_
   obtain ⟨aq, eo, av, bB⟩ := ra_ 80 0 aF.wf cp [i_ ((gt ((gt D e).2.2) V).1), .int .u64 ((gt ((gt D e).2.2) V).2.1), i_ ((gt ((gt D e).2.2) V).2.2)] [i_ ((gt ((gt D e).2.2) V).1), .int .u64 ((gt ((gt D e).2.2) V).2.1), i_ ((gt ((gt D e).2.2) V).2.2)]
   refine ek_ eo (Za (dV _ _ ?_))
   refine ZQ [0, 1, 2, 3, 4, 5, 6, 7, 8, 9, 10, 11, 12, 13, 14, 15, 16, 17, 18, 19] (by kernel_rfl) ?_
   refine e_' (pt_ O 0) (e_' (pt_ O 0) (e_' (pt_ O 0) ?_))
   have bN := (ax.dj bl aa.ltF)
   have bO := (ak.dj bN (aa.ltF.le cj))
   have ee := (t_ (t_ (t_ ac.n Z.n) ab.n) ai.n)
   have cU := (a2.djn (aa.ltF.le ee))
   have bF := ((((((aa.ext ac).frS Z (an.djn aa.ltF)).frS ab bN).frS ai bO).ext aF).frS av cU)
   refine Zcb (Y) (x := aL_ 123 (pt_ O 0) aq) (by kernel_rfl) (bF.l_) ?_
   refine e_' (pt_ aX 0) ?_
   refine Zcb (i_ ((gt ((gt D e).2.2) V).1)) (x := aL_ 3 (pt_ aX 0) aq) (by kernel_rfl) (bB.l_) ?_
   refine e_' (pt_ O 0) (e_' (pt_ O 0) (e_' (pt_ O 0) (mr_ 123 0 (Y) bF (e_' (pt_ aX 0) (mr_ 3 0 (i_ ((gt ((gt D e).2.2) V).1)) bB ?_)))))
   obtain ⟨ae, eF⟩ := Zb eE
   have bc := ((a_.ext aF).fr av (a2.djn a_.lt))
   refine bc.mx_ 123 ae.1 ae.2 (m_' (elp Y 3 ((gt ((gt D e).2.2) V).1).toNat 1) (Zw Tryz.prog 138 (elp Y 3 ((gt ((gt D e).2.2) V).1).toNat 0) 1) (Nd.fldq (d := 1) bc ae.1 ae.2 (by kernel_rfl)) ?_)
   obtain ⟨bY, eH⟩ := Zb eF
   obtain ⟨eV, fF, dm, di⟩ := Nd.at bc ae.1 ae.2
   have cf : KdS Zc 3 aq eV ((gt o2 ((gt ((gt D e).2.2) V).1)).2.1) aK Y 3 ((gt ((gt D e).2.2) V).1).toNat 1 := di false (by have := bY; have := ae.1; have := ag.1; simp; omega)
   obtain ⟨cK, ef, cM, rfl⟩ := cf.sq.form
   refine m_' (.slice cK ef cM) (aL_ 75 (elp Y 3 ((gt ((gt D e).2.2) V).1).toNat 1) aq) (dm _ _ _ _ (by kernel_rfl)) (e_' (i_ e) ?_)
   obtain ⟨c8, fw, a7, du, bP, dx, dy⟩ := Nd.borrow false bc ae.1 ae.2 (by have := bY; have := ae.1; have := ag.1; simp; omega) cf rfl
   have cD := Inn.sub' (H := aq) dx
   have be := Inn.sub' (H := aq) dy
   have a7 : Nd Zc 3 aq Y o2 c8 [(((gt ((gt D e).2.2) V).1).toNat, false), (e.toNat, true), (e.toNat, false)] := a7
   obtain ⟨cG, dG, eJ⟩ := bs_ eH
   refine dk_ (ZeM av.wf du dG) ?_
   rintro fD bJ ⟨_, fx, rfl, aG, ch, cd⟩
   obtain ⟨fh, fB, fm, rfl⟩ := ch.form
   have eh := (t_ (t_ ac.n Z.n) ab.n)
   have cV := (aT.dj bO (aa.ltF.le eh))
   have ej := (t_ (t_ (t_ (t_ (t_ ac.n Z.n) ab.n) ai.n) aF.n) av.n)
   have cW := (be.dj cV (aa.ltF.le ej))
   have eW := (bF.frS aG cW)
   have cX := (a2.djn a_.lt)
   have cY := (be.dj (Dj.symm cX) (cp.ltF.le av.n))
   have eX := (bB.frS aG cY)
   refine ⟨ZaB (y := aL_ 3 (pt_ aX 0) bJ) (by kernel_rfl) (eX.l_) (ZaB (y := aL_ 123 (pt_ O 0) bJ) (by kernel_rfl) (eW.l_) (ZF)), ?_⟩
   have bG := (a7.fr aG (Dj.symm bP))
   refine bG.mx_ 123 ae.1 ae.2 (m_' (elp Y 3 ((gt ((gt D e).2.2) V).1).toNat 1) (Zw Tryz.prog 138 (elp Y 3 ((gt ((gt D e).2.2) V).1).toNat 0) 1) (Nd.fldq (d := 1) bG ae.1 ae.2 (by kernel_rfl)) ?_)
   have cZ := (cd.dj (Dj.symm bP) a7.lt)
   obtain ⟨cI, bU, ep, c6, bs, de⟩ := Nd.close (P := Tryz.prog) (t := 75) false aG.wf bG ch (Dj.symm cZ) ae.1 ae.2 (by kernel_rfl) (by kernel_rfl) (by kernel_rfl)
   have bs : Nd Zc 3 cI Y (o2.set ((gt ((gt D e).2.2) V).1).toNat ((gt o2 ((gt ((gt D e).2.2) V).1)).1, cG, (gt o2 ((gt ((gt D e).2.2) V).1)).2.2)) bU [(e.toNat, true), (e.toNat, false)] := bs
   have e5 := de.grow3 (Inn.trans ir_ (Nat.le_refl _) cD) (Inn.trans (Inn.trans ir_ (Nat.le_refl _) be) (Nat.le_refl _) cd) aG.n
   refine fk_ ep (Zab (by kernel_rfl) (Zab (by kernel_rfl) (ZF))) ?_
   refine ZI ?_
   refine dU _ _ (g_' ?_)
   obtain ⟨c_, eK⟩ := Zb eJ
   refine w_' ((V + 1)) (Zn (by have := c_; omega)) (q_ (i_ (V + 1)) (Za ?_))
   have bw := (t_ (t_ ai.n aF.n) av.n)
   obtain rfl := oi_ eK
   exact dR ed _ _ lt_ ⟨(o2.set ((gt ((gt D e).2.2) V).1).toNat ((gt o2 ((gt ((gt D e).2.2) V).1)).1, cG, (gt o2 ((gt ((gt D e).2.2) V).1)).2.2)), (V + 1), bU, b9, ha_, (fs_ ab.wf (fs_ ab.wf (fs_ ab.wf ((fs_ ab.wf (fr_ ab.wf) ai ir_).extR aF) av (a2.fresh ai.n)) aG (Inn.trans (Inn.trans ir_ (Nat.le_refl _) aT) bw be)) c6 (Inn.trans (Inn.trans ir_ (Nat.le_refl _) aT) bw cD)), bs, (Inn.trans (Inn.trans ir_ (Nat.le_refl _) aT) bw e5)⟩
  have eM := Zi aP aR
  refine ZK (Zj (Zj (ZV ?_)))
  obtain rfl := oi_ eM
  obtain rfl := Zx b9
  exact dQ _ _ ⟨aK, ha_, (fs_ ab.wf (fr_ ab.wf) ai ir_), a_, (Inn.trans ir_ (Nat.le_refl _) aT)⟩
 obtain ⟨aY, b5, aE, d8, bu⟩ := hM
 obtain ⟨β, rfl⟩ := Zk b5
 clear b5
 refine dO _ _ (sq_ fun dY => ?_)
 refine ZQ [0, 1, 2, 3, 4, 5, 6, 7, 8, 9, 10, 11, 12, 13, 14] (by kernel_rfl) ?_
 refine e_' (pt_ O 0) (e_' (pt_ O 0) (e_' (pt_ O 2) ?_))
 have bQ := (ax.dj bl aa.ltF)
 have aH := (t_ ac.n Z.n)
 have bR := (ak.dj bQ (aa.ltF.le aH))
 have cz := ((((aa.ext ac).frS Z (an.djn aa.ltF)).frS ab bQ).frS aE bR)
 refine mr_ 3 2 (i_ ao) cz (e_' (pt_ al 1) ?_)
 have c0 := (ak.dj (Dj.symm bM) (cu.ltF.le Z.n))
 have cA := (cx.frS aE c0)
 refine mr_ 75 1 (.slice ay aI aA) cA ?_
 have c3 := (ak.dj bj (a8.lt.le aH))
 have eY := ((bH.fr ab bj).fr aE c3)
 refine eY.sq.mn_ 75 (e_' (pt_ al 2) (mr_ 75 2 (.slice az aJ aB) cA ?_))
 have c4 := (ak.dj bk (aQ.lt.le aH))
 have eZ := (bE.fr aE c4)
 refine eZ.sq.mn_ 75 ?_
 obtain ⟨da, eN⟩ := Zb eC
 refine d_w (((((gt D e).2.1).length : Int) + (((gt D e).2.2).length : Int))) (k := .i64) (x := ((((gt D e).2.1).length : Int) + (((gt D e).2.2).length : Int))) (by kernel_rfl) (Zn da) ?_
 obtain ⟨db, eO⟩ := Zb eN
 refine d_w ((ao - ((((gt D e).2.1).length : Int) + (((gt D e).2.2).length : Int)))) (k := .i64) (x := (ao - ((((gt D e).2.1).length : Int) + (((gt D e).2.2).length : Int)))) (by kernel_rfl) (Zn db) ?_
 refine e_' (pt_ O 0) (e_' (pt_ O 2) ?_)
 obtain ⟨e_, eq, bm, cq⟩ := rb_ 3 2 aE.wf cz (i_ (ao - ((((gt D e).2.1).length : Int) + (((gt D e).2.2).length : Int)))) [Y, i_ aw, i_ (ao - ((((gt D e).2.1).length : Int) + (((gt D e).2.2).length : Int)))]
 refine fk_ eq (ZF) ?_
 refine ZI ?_
 refine dY _ _ (sq_ fun dZ => g_' (q_ (pt_ O 0) (q_ (pt_ O 0) (q_ (pt_ O 1) (lr_ 3 1 (i_ aw) cq ?_)))))
 obtain ⟨dc, eP⟩ := Zb eO
 refine w_' ((aw - 1)) (Zn dc) (q_ (pt_ O 0) (q_ (pt_ O 1) ?_))
 obtain ⟨fa, es, bn, cr⟩ := rb_ 3 1 bm.wf cq (i_ (aw - 1)) [Y, i_ (aw - 1), i_ (ao - ((((gt D e).2.1).length : Int) + (((gt D e).2.2).length : Int)))]
 refine ek_ es (Za (dZ _ _ (sq_ fun d0 => g_' (q_ (pt_ O 0) (q_ (pt_ O 0) (q_ (pt_ O 0) (lr_ 123 0 (Y) cr (q_ (i_ e) (q_ (.agg #[.bool true, .slice none 0 0, .slice none 0 0]) ?_)))))))))
 obtain ⟨bZ, eQ⟩ := Zb eP
 have bx := (t_ (t_ ac.n Z.n) ab.n)
 have bi := (bu.dj bR (aa.ltF.le bx))
 have cB := ((d8.fr bm (Dj.symm bi)).fr bn (Dj.symm bi))
 refine cB.ix_ 123 ag.1 bZ ?_
 obtain ⟨fb, et, bS, dp⟩ := Nd.clearAt (P := Tryz.prog) (t := 138) (v := .agg #[.bool true, .slice none 0 0, .slice none 0 0]) (b0 := true) (hol' := []) bn.wf cB (by decide) ag.1 bZ (by kernel_rfl) (by kernel_rfl) (by simp)
 refine ek_ et (Za (d0 _ _ (sq_ fun d1 => g_' (q_ (.nilIface) (Za (d1 _ _ ?_))))))
 refine Zg ?_
 refine br_ [.nilIface] ?_
 have e0 := (cr.frS bS bi)
 obtain rfl := oi_ eQ
 exact ⟨(.nilIface), [], aY, rfl, (fs_ ah (fs_ ah (fs_ ah (fs_ ah (fs_ ah (fs_ ah ((fr_ ah).extR ac) Z (an.fresh (Nat.le_refl _))) ab (Inn.trans (Inn.right ir_) (Nat.le_refl _) ax)) aE (Inn.trans (Inn.trans (Inn.right ir_) (Nat.le_refl _) ax) aH ak)) bm Inn.left) bn Inn.left) bS (Inn.trans (Inn.trans (Inn.trans (Inn.right ir_) (Nat.le_refl _) ax) aH ak) bx bu)), Ev.nil, dp, e0, in_, (Inn.trans (Inn.trans (Inn.trans ir_ (Nat.le_refl _) ax) aH ak) bx bu), dn_⟩
theorem ZfE {H : AH} {aL : Value} {bX : Fp} {an : Value} {bY : Fp} {bc : List (Bool)} {Arcs : List (Int × Int × Int × Int)} {ab : Int} {r : List (Bool) × List (Int × Int × Int × Int)}
    (aj : WF H) (bk : Sq ZaC 1 H aL bc bX) (aK : Sq Zo 4 H an Arcs bY) (br : ZbE bc Arcs ab = some r) :
    ACalls Tryz.prog 41 #[.agg #[aL, an], i_ ab] H fun v H' => ∃ (bE : Value) (aT : Fp) (bF : Value) (aU : Fp), v = .agg #[bE, bF] /\ FrS [] H H' /\ Ow ZaC 1 H' bE r.1 aT /\ Ow Zo 4 H' bF r.2 aU /\ Inn [] H aT /\ Inn [] H aU /\ Dj aT aU := by
 refine ab_ Tryz.func41 ?_
 unfold ZbE at br
 refine sq_ fun cg => g_' ?_
 refine ZaG aj [aL, an] (Zs (bk.one1) (Zs (aK.one1) (Z1))) (by kernel_rfl) fun be df ah dv a_ => ?_
 refine rk_ ah.wf [.slice none 0 0, .slice none 0 0] fun aF dk ae b8 aA => ?_
 refine Za (cg _ _ (sq_ fun cj => g_' ?_))
 refine rk_ ae.wf [.slice none 0 0, .slice none 0 0] fun V dm ac am ai => ?_
 refine Za (cj _ _ (sq_ fun ck => g_' (q_ (pt_ V 0) (lr_ 30 0 (.slice none 0 0) ai (q_ (pt_ be 0) ?_)))))
 have bI := ((a_.ext ae).ext ac)
 refine lr_ 30 0 (aL) bI ?_
 obtain ⟨b7, cW⟩ := Zb br
 have da := (((bk.ext ah).ext ae).ext ac)
 obtain ⟨dA, dn, bW, cG, Z, aX, ao⟩ := Ow.append (P := Tryz.prog) 1 ac.wf (Ow.nil (enc := ZaC) (sz := 1) (by decide)) da (fun _ _ => rfl) (at_ := #[30, 30]) rfl rfl (by kernel_rfl) (by kernel_rfl) (by decide) (by have := b7; first | omega | (simp only [List.length_cons, List.length_nil] at this ⊢; omega) | (simp at this ⊢; omega))
 obtain ⟨U, aa, Y, rfl⟩ := aX.form
 refine ZaN (.slice U aa Y) (by kernel_rfl) (cG) ?_
 refine q_ (pt_ V 0) ?_
 have db := (ai.frS Z dn_)
 obtain ⟨dp, cH, O, bD⟩ := rb_ 30 0 Z.wf db (.slice U aa Y) [.slice U aa Y, .slice none 0 0]
 refine ek_ cH (Za (ck _ _ (sq_ fun cm => g_' (q_ (pt_ V 0) (lr_ 30 0 (.slice U aa Y) bD (q_ (i_ ab) ?_))))))
 obtain ⟨aJ, cX⟩ := Zb cW
 have aQ := (ao.djn ai.ltF)
 have bJ := (aX.fr O (Dj.symm aQ))
 refine bJ.sq.ix_ 30 aJ.1 aJ.2 ?_
 obtain ⟨aB, cI, D, b_⟩ := Ow.store (P := Tryz.prog) (t := 4) (off := 0) O.wf bJ aJ.1 aJ.2 (.bool false) [.bool false] (by kernel_rfl) (by kernel_rfl) rfl false (Nat.le_of_ble_eq_true rfl) (by kernel_rfl)
 refine ek_ cI (Za (cm _ _ (sq_ fun cn => sq_ fun co => g_' (q_ (pt_ be 1) ?_))))
 have bS := (am.djn (a_.ltF.le ae.n))
 have cB := (t_ ae.n ac.n)
 have bT := (ao.djn (a_.ltF.le cB))
 have dc := (((bI.frS Z dn_).frS O bS).frS D bT)
 refine lr_ 31 1 (an) dc ?_
 have a6 := (t_ ah.n ae.n)
 have bh := (am.djn (aK.lt.le a6))
 have a7 := (t_ (t_ ah.n ae.n) ac.n)
 have bU := (ao.djn (aK.lt.le a7))
 have bK := ((((((aK.ext ah).ext ae).ext ac).fr Z dn_).fr O bh).fr D bU)
 refine bK.ln_ 31 (q_ (i_ 0) (Za (co _ _ ?_)))
 obtain ⟨bB, cc, cY⟩ := bs_ cX
 refine ZC (fun α aC => ∃ (ba : Value) (aI : Fp), Has α [(4, pt_ aF 0), (5, pt_ V 0)] /\ FrS [V] aB aC /\ Ow Zo 4 aC ba bB aI /\ Row aC V [.slice U aa Y, ba] /\ Inn [] aB aI) (fun _ cp => ?_) (fun α aC hM => ?_)
 ·refine Zm ?_
  obtain ⟨bz, ca⟩ := Zu.1 cc
  have cZ := (bD.frS D aQ)
  refine ZJ (fun n α aD => ∃ (e : Int), ∃ (aq : List (Int × Int × Int × Int)), ∃ (bb : Value), ∃ (av : Fp), ZR (fun zz_ => ZaV Arcs ab zz_.1 zz_.2) n (e, aq) = some bB /\ Has α [(1, i_ ab), (4, pt_ aF 0), (5, pt_ V 0), (19, an), (20, i_ (Arcs.length : Int)), (21, i_ e)] /\ FrS [V] aB aD /\ Ow Zo 4 aD bb aq av /\ Row aD V [.slice U aa Y, bb] /\ Inn [] aB av) bz ⟨0, [], (.slice none 0 0), [], ca, ha_, (fr_ D.wf), (Ow.nil (by decide)), cZ, in_⟩ ?_
  rintro bz α aD ⟨e, aq, bb, av, b9, bo, ad, ap, a1, ay⟩ dq bt
  obtain ⟨bx, dd, rfl, ax, aY⟩ := Zy b9
  obtain ⟨β, rfl⟩ := Zk bo
  clear bo
  replace ax : ZaV Arcs ab e aq = some dd := ax
  unfold ZaV at ax
  obtain ⟨aN, a2, aP, rfl⟩ := ap.form
  refine sq_ fun cd => g_' (q_ (.bool (decide (e < (Arcs.length : Int)))) (Za (cd _ _ (sq_ fun ce => ?_))))
  refine wc_ (e < (Arcs.length : Int)) (fun aw => ?_) fun aw => ?_
  ·have cJ := Ze aw ax
   refine Zf (ce _ _ (sq_ fun bu => Zm (sq_ fun cf => g_' ?_)))
   obtain ⟨bj, cK⟩ := Zb cJ
   have bG := (bK.fr ad bh)
   refine bG.ix_ 31 bj aw (le_ 96 0 (.agg #[i_ ((gt Arcs e).1), i_ ((gt Arcs e).2.1), .int .u64 ((gt Arcs e).2.2.1), i_ ((gt Arcs e).2.2.2)]) bG bj aw ?_)
   refine rk_ ad.wf [i_ 0, i_ 0, .int .u64 0, i_ 0] fun aO de af al cL => ?_
   obtain ⟨bL, cC, ag, a8⟩ := ra_ 96 0 af.wf cL [i_ ((gt Arcs e).1), i_ ((gt Arcs e).2.1), .int .u64 ((gt Arcs e).2.2.1), i_ ((gt Arcs e).2.2.2)] [i_ ((gt Arcs e).1), i_ ((gt Arcs e).2.1), .int .u64 ((gt Arcs e).2.2.1), i_ ((gt Arcs e).2.2.2)]
   refine ek_ cC (Za (cf _ _ (sq_ fun ch => ?_)))
   obtain ⟨bA, bs, bC⟩ := bs_ cK
   refine ZC (fun α bd => Has α [(1, i_ ab), (4, pt_ aF 0), (5, pt_ V 0), (7, pt_ aO 0), (19, an), (20, i_ (Arcs.length : Int)), (21, i_ e), (34, .bool bA)] /\ bL = bd) (fun _ bv => ?_) (fun α bd hM => ?_)
   ·refine g_' (q_ (pt_ aO 0) (lr_ 3 0 (i_ ((gt Arcs e).1)) a8 (q_ (i_ ab) ?_)))
    refine s_bn (((gt Arcs e).1) = ab) (by kernel_rfl) (fun aV => ?_) (fun aV => ?_)
    ·have cM := Ze aV bs
     refine q_ (.bool false) (n_' (n_' (n_' (n_' (q_ (.bool false) (Za ?_))))))
     obtain rfl := oi_ cM
     exact bv _ _ ⟨ha_, rfl⟩
    have cN := Zi aV bs
    refine q_ (.bool true) (q_ (pt_ aO 1) (lr_ 3 1 (i_ ((gt Arcs e).2.1)) a8 (q_ (i_ ab) (q_ (.bool (!decide (((gt Arcs e).2.1) = ab))) (q_ (.bool (!decide (((gt Arcs e).2.1) = ab))) (Za ?_))))))
    obtain rfl := oi_ cN
    exact bv _ _ ⟨ha_, rfl⟩
   obtain ⟨bm, rfl⟩ := hM
   obtain ⟨β, rfl⟩ := Zk bm
   clear bm
   refine ch _ _ ?_
   refine wb_ (bA) (fun aW => ?_) fun aW => ?_
   ·have cO := Ze aW bC
    refine g_' (q_ (pt_ V 1) ?_)
    have cr := (t_ (t_ (t_ Z.n O.n) D.n) ad.n)
    have bN := (al.djn (ai.ltF.le cr))
    have bH := ((a1.ext af).frS ag bN)
    refine lr_ 31 1 (.slice aN a2 aP) bH (lr_ 96 0 (.agg #[i_ ((gt Arcs e).1), i_ ((gt Arcs e).2.1), .int .u64 ((gt Arcs e).2.2.1), i_ ((gt Arcs e).2.2.2)]) a8 ?_)
    refine Zbl (enc := Zo) (sz := 4) ag.wf [((gt Arcs e).1, (gt Arcs e).2.1, (gt Arcs e).2.2.1, (gt Arcs e).2.2.2)] 1 (by decide) (fun _ _ => rfl) (fun _ _ => rfl) rfl (by kernel_rfl) fun dy du dg ak dw bp => ?_
    obtain ⟨dr, dx, dt, rfl⟩ := bp.form
    have c0 := (((ap.ext af).fr ag (al.djn ap.lt)).ext ak)
    obtain ⟨bZ, cP⟩ := Zb cO
    obtain ⟨dz, dh, bV, cD, aR, bq, bl⟩ := Ow.append (P := Tryz.prog) 32 ak.wf c0 bp.sq (fun _ _ => rfl) (at_ := #[31, 31]) rfl rfl (by kernel_rfl) (by kernel_rfl) (by decide) (by have := bZ; first | omega | (simp only [List.length_cons, List.length_nil] at this ⊢; omega) | (simp at this ⊢; omega))
    obtain ⟨aE, aM, aG, rfl⟩ := bq.form
    refine ZaN (.slice aE aM aG) (by kernel_rfl) (cD) ?_
    refine q_ (pt_ V 1) ?_
    have cu := (t_ (t_ Z.n O.n) D.n)
    have bf := (ay.djn (ai.ltF.le cu))
    have c3 := ((bH.ext ak).frS aR bf)
    obtain ⟨di, cE, bi, cQ⟩ := rb_ 31 1 aR.wf c3 (.slice aE aM aG) [.slice U aa Y, .slice aE aM aG]
    refine ek_ cE (Za (bu _ _ (g_' ?_)))
    obtain ⟨b5, cR⟩ := Zb cP
    refine w_' ((e + 1)) (Zn (by have := b5; omega)) (q_ (i_ (e + 1)) (Za ?_))
    have cv := (t_ (t_ (t_ (t_ (t_ (t_ Z.n O.n) D.n) ad.n) af.n) ag.n) ak.n)
    have bO := (bl.dj bf (ai.ltF.le cv))
    have c4 := (bq.fr bi (Dj.symm bO))
    have cw := (t_ (t_ (t_ ad.n af.n) ag.n) ak.n)
    obtain rfl := oi_ cR
    exact bt bx _ _ lt_ ⟨(e + 1), (aq ++ [((gt Arcs e).1, (gt Arcs e).2.1, (gt Arcs e).2.2.1, (gt Arcs e).2.2.2)]), (.slice aE aM aG), bV, aY, ha_, (fs_ D.wf (fs_ D.wf ((fs_ D.wf ((fs_ D.wf (fr_ D.wf) ad ir_).extR af) ag (al.fresh ad.n)).extR ak) aR (ay.fresh (Nat.le_refl _))) bi ir_), c4, cQ, (Inn.trans (ay.fresh (Nat.le_refl _)) cw bl)⟩
   have cS := ZL aW bC
   refine Zf (bu _ _ (g_' ?_))
   obtain ⟨b6, cT⟩ := Zb cS
   refine w_' ((e + 1)) (Zn (by have := b6; omega)) (q_ (i_ (e + 1)) (Za ?_))
   have c5 := ((ap.ext af).fr ag (al.djn ap.lt))
   have cx := (t_ (t_ (t_ Z.n O.n) D.n) ad.n)
   have bP := (al.djn (ai.ltF.le cx))
   have c6 := ((a1.ext af).frS ag bP)
   obtain rfl := oi_ cT
   exact bt bx _ _ lt_ ⟨(e + 1), aq, (.slice aN a2 aP), av, aY, ha_, (fs_ D.wf ((fs_ D.wf (fr_ D.wf) ad ir_).extR af) ag (al.fresh ad.n)), c5, c6, (ay.fresh (Nat.le_refl _))⟩
  have cU := Zi aw ax
  refine ZK (Zj (Zj (ZV ?_)))
  obtain rfl := oi_ cU
  obtain rfl := Zx aY
  exact cp _ _ ⟨(.slice aN a2 aP), av, ha_, (fs_ D.wf (fr_ D.wf) ad ir_), ap, a1, (ay.fresh (Nat.le_refl _))⟩
 obtain ⟨ba, aI, bn, aH, bw, cq, aZ⟩ := hM
 obtain ⟨β, rfl⟩ := Zk bn
 clear bn
 obtain ⟨ar, az, au, rfl⟩ := bw.form
 refine cn _ _ (sq_ fun ci => g_' (lr_ 33 0 (.agg #[.slice U aa Y, .slice ar az au]) cq ?_))
 have bg := (ao.djn (aA.ltF.le ac.n))
 have c7 := (((((aA.ext ac).frS Z dn_).frS O (am.djn aA.ltF)).frS D bg).frS aH (am.djn aA.ltF))
 have c8 := (b_.fr aH (Dj.symm aQ))
 obtain ⟨bM, cF, aS, cV⟩ := ra_ 33 0 aH.wf c7 [.slice U aa Y, .slice ar az au] [.slice U aa Y, .slice ar az au]
 refine ek_ cF (Za (ci _ _ ?_))
 refine Zg ?_
 refine Z3 (vs := [.agg #[.slice U aa Y, .slice ar az au]]) (ZM (Eq.trans (b := aL_ 33 (pt_ aF 0) bM) (by kernel_rfl) (cV.l_)) (rfl)) ?_
 have c9 := (c8.fr aS (Dj.symm bg))
 have cy := (t_ (t_ (t_ ac.n Z.n) O.n) D.n)
 have bQ := (aZ.djn (aA.ltF.le cy))
 have c_ := (bw.fr aS (Dj.symm bQ))
 have cz := (t_ (t_ (t_ (t_ (t_ ah.n ae.n) ac.n) Z.n) O.n) D.n)
 have cA := (t_ O.n D.n)
 have bR := (aZ.djn (aX.lt.le cA))
 obtain rfl := oi_ cY
 exact ⟨(.slice U aa Y), bW, (.slice ar az au), aI, rfl, (fs_ aj (fs_ aj (fs_ aj (fs_ aj (fs_ aj ((((f0_ aj).extR ah).extR ae).extR ac) Z in_) O (am.fresh a6)) D (ao.fresh a7)) aH (am.fresh a6)) aS (b8.fresh ah.n)), c9, c_, (ao.fresh a7), (aZ.fresh cz), (Dj.symm bR)⟩
end Go.Vd

/-! (KSn7) -/

set_option maxRecDepth 100000
set_option maxHeartbeats 4000000
set_option linter.unusedVariables false
namespace Go.Vd
open Go.Proofs
attribute [local irreducible] Zp Zr aWp
theorem Zel {H : AH} {be : Value} {fZ : Fp} {aT : Value} {f0 : Fp} {a1 : Int} {Arcs : List (Int × Int × Int)} {U : List (Int × Int × Int × Int × Int)} {r : (Unit) ⊕ (List (Bool × List (Int × Int × Int) × List (Int × Int × Int)) × Int × Int × List (Bool) × List (Int × Int × Int × Int))}
    (aC : WF H) (cC : Sq Zq 3 H be Arcs fZ) (bd : Sq Za8 5 H aT U f0) (dF : Zb4 a1 Arcs U = some r) :
    ACalls Tryz.prog 18 #[.agg #[i_ a1, be], aT] H fun v H' => Sum.elim (fun (r : Unit) => v = .tuple #[.pointer none, .agg #[.slice none 0 0, .slice none 0 0], .bool false] /\ FrS [] H H') (fun (r : List (Bool × List (Int × Int × Int) × List (Int × Int × Int)) × Int × Int × List (Bool) × List (Int × Int × Int × Int)) => ∃ (ej : Value) (bF : Fp) (a6 : Nat) (ef : Value) (bD : Fp) (eh : Value) (f15 : Fp), v = .tuple #[pt_ a6 0, .agg #[ef, eh], .bool true] /\ FrS [] H H' /\ Nd Zc 3 H' ej r.1 bF [] /\ Row H' a6 [ej, i_ r.2.1, i_ r.2.2.1] /\ Ow ZaC 1 H' ef r.2.2.2.1 bD /\ Sq Zo 4 H' eh r.2.2.2.2 f15 /\ Inn [] H bF /\ Inn [] H [a6] /\ Inn [] H bD /\ Inn [] H f15 /\ Dj bF [a6] /\ Dj bF bD /\ Dj [a6] bD /\ Dj bF f15 /\ Dj [a6] f15 /\ Dj bD f15) r := by
 refine ab_ Tryz.func18 ?_
 unfold Zb4 at dF
 refine sq_ fun go => g_' ?_
 refine ZaG aC [i_ a1, be] (Zs (rfl) (Zs (cC.one1) (Z1))) (by kernel_rfl) fun eB iR ar jf d_ => ?_
 refine q_ (.pointer none) ?_
 refine rk_ ar.wf [.slice none 0 0, .slice none 0 0] fun a2 ey ag dA aD => ?_
 refine q_ (.bool false) (Za (go _ _ (sq_ fun gv => sq_ fun gw => ?_)))
 obtain ⟨d8, f8, eb⟩ := bs_ dF
 refine ZC (fun α de => Has α [(1, aT), (2, pt_ eB 0), (5, pt_ a2 0), (21, .bool d8)] /\ FrS [] ey de) (fun _ dH => ?_) (fun α de hM => ?_)
 ·refine g_' ?_
  have ii := (d_.ext ag)
  refine lr_ 24 0 (.agg #[i_ a1, be]) ii ?_
  have il := ((cC.ext ar).ext ag)
  obtain ⟨iJ, gf, ed⟩ := bs_ f8
  refine ck_ (ZgC ag.wf il gf) ?_
  rintro _ i3 ⟨rfl, cu⟩
  by_cases b5 : iJ = true
  ·have hK := Ze b5 ed
   rw [b5]
   refine q_ (.bool false) (q_ (.bool false) (q_ (aT) ?_))
   have iD := (((bd.ext ar).ext ag).fr cu dn_)
   refine iD.ln_ 25 (q_ (.bool (decide ((U.length : Int) > 60))) (q_ (.bool (decide ((U.length : Int) > 60))) (Za ?_)))
   obtain rfl := oi_ hK
   exact dH _ _ ⟨ha_, (fs_ ag.wf (fr_ ag.wf) cu in_)⟩
  have hN := Zi b5 ed
  rw [nb b5]
  refine q_ (.bool true) (q_ (.bool true) (n_' (n_' (n_' (q_ (.bool true) (Za ?_))))))
  obtain rfl := oi_ hN
  exact dH _ _ ⟨ha_, (fs_ ag.wf (fr_ ag.wf) cu in_)⟩
 obtain ⟨dE, af⟩ := hM
 obtain ⟨β, rfl⟩ := Zk dE
 clear dE
 refine gw _ _ ?_
 refine wb_ (d8) (fun cB => ?_) fun cB => ?_
 ·have hO := Ze cB eb
  refine sq_ fun gB => g_' (q_ (.agg #[.slice none 0 0, .slice none 0 0]) (q_ (.pointer none) ?_))
  have iF := (aD.frS af dn_)
  obtain ⟨eA, hg, fV, hP⟩ := ra_ 33 0 af.wf iF [.slice none 0 0, .slice none 0 0] [.slice none 0 0, .slice none 0 0]
  refine ek_ hg (q_ (.bool false) (Za (gB _ _ ?_)))
  refine Zg (Zh ?_)
  refine Z3 (vs := [.pointer none, .agg #[.slice none 0 0, .slice none 0 0], .bool false]) (ZbU (by kernel_rfl) (ZM (Eq.trans (b := aL_ 33 (pt_ a2 0) eA) (by kernel_rfl) (hP.l_)) (rt_ (rfl)))) ?_
  obtain rfl := oi_ hO
  exact (Zkt ⟨rfl, (fs_ aC (fs_ aC (((f0_ aC).extR ar).extR ag) af in_) fV (dA.fresh ar.n))⟩)
 have hQ := ZL cB eb
 refine Zf (gv _ _ (sq_ fun gC => g_' ?_))
 have et := ((d_.ext ag).frS af dn_)
 refine lr_ 24 0 (.agg #[i_ a1, be]) et ?_
 have eu := (((cC.ext ar).ext ag).fr af dn_)
 obtain ⟨iK, gg, ee⟩ := bs_ hQ
 rcases iK with jy | dd
 ·exact (Zkf (Zji ee)).elim
 have hR := Zjh ee
 refine ck_ (Zge af.wf eu gg) ?_
 rintro _ i4 ⟨js, bG, ai, rfl, au, aO, ac, b7, b8, cq⟩
 obtain ⟨aR, aW, aS, rfl⟩ := aO.form
 refine q_ (.tuple #[pt_ ai 0, .nilIface]) (q_ (pt_ ai 0) (q_ (.nilIface) (q_ (pt_ ai 0) (q_ (.nilIface) (Za (gC _ _ (sq_ fun gD => g_' ?_)))))))
 have iG := (et.frS au dn_)
 refine lr_ 24 0 (.agg #[i_ a1, be]) iG ?_
 have iH := (eu.fr au dn_)
 obtain ⟨bl, gh, hS⟩ := bs_ hR
 refine ck_ (ZfD au.wf iH gh) ?_
 rintro _ iM ⟨jm, cv, jn, cw, jo, jc, rfl, ab, bh, bM, cM, aU, bf, jg, eC, i8, i9⟩
 obtain ⟨bm, bO, bs, rfl⟩ := bh.form
 obtain ⟨bn, bP, bt, rfl⟩ := bM.form
 obtain ⟨bV, cc, bX, rfl⟩ := cM.form
 refine q_ (.tuple #[.agg #[.slice bm bO bs, .slice bn bP bt], .agg #[i_ bl.2.2.1, .slice bV cc bX]]) (q_ (.agg #[.slice bm bO bs, .slice bn bP bt]) (q_ (.agg #[i_ bl.2.2.1, .slice bV cc bX]) ?_))
 refine rk_ ab.wf [.slice none 0 0, .slice none 0 0] fun aG iN ae aq am => ?_
 refine rk_ ae.wf [i_ 0, .slice none 0 0] fun i6 iO Y aM hh => ?_
 have hT := (am.ext Y)
 have hU := ((bM.ext ae).ext Y)
 have hV := ((bh.ext ae).ext Y)
 obtain ⟨iP, g_, Z, hj⟩ := ra_ 33 0 Y.wf hT [.slice bm bO bs, .slice bn bP bt] [.slice bm bO bs, .slice bn bP bt]
 refine ek_ g_ ?_
 have df := (aM.djn am.ltF)
 have hW := (hh.frS Z (Dj.symm df))
 have jt := (((cM.ext ae).ext Y).fr Z (aq.djn cM.lt))
 obtain ⟨aK, ha, D, jl⟩ := ra_ 44 0 Z.wf hW [i_ bl.2.2.1, .slice bV cc bX] [i_ bl.2.2.1, .slice bV cc bX]
 refine ek_ ha (Za (gD _ _ (sq_ fun gi => sq_ fun gj => g_' (q_ (aT) ?_))))
 have cP := (t_ (t_ (t_ (t_ ar.n ag.n) af.n) au.n) ab.n)
 have dg := (aq.djn (bd.lt.le cP))
 have dS := (t_ (t_ (t_ (t_ (t_ ar.n ag.n) af.n) au.n) ab.n) ae.n)
 have eD := (aM.djn (bd.lt.le dS))
 have ek := (((((((((bd.ext ar).ext ag).fr af dn_).fr au dn_).fr ab dn_).ext ae).ext Y).fr Z dg).fr D eD)
 refine ek.ln_ 25 (q_ (i_ 0) (Za (gj _ _ ?_)))
 obtain ⟨bj, f7, hk⟩ := bs_ hS
 refine ZC (fun α aP => ∃ (a_ : Fp) (c0 : Value) (ba : Fp) (c3 : Value) (bb : Fp), Has α [(5, pt_ a2 0), (7, pt_ ai 0), (9, pt_ aG 0)] /\ FrS ([aG] ++ ([ai] ++ bG)) aK aP /\ Nd Zc 3 aP (.slice aR aW aS) bj.1 a_ [] /\ Row aP ai [.slice aR aW aS, i_ bj.2.1, i_ bj.2.2.1] /\ Ow ZaC 1 aP c0 bj.2.2.2.1 ba /\ Sq Zo 4 aP c3 bj.2.2.2.2 bb /\ Row aP aG [c0, c3] /\ Inn bG aK a_ /\ Inn cv aK ba /\ Inn cw aK bb /\ Dj a_ ba /\ Dj a_ bb /\ Dj ba bb) (fun _ gk => ?_) (fun α aP hM => ?_)
 ·refine Zm ?_
  obtain ⟨dT, f5⟩ := Zu.1 f7
  have eH := (aq.djn (aO.lt.le ab.n))
  have dU := (t_ ab.n ae.n)
  have eI := (aM.djn (aO.lt.le dU))
  have hX := (((((aO.fr ab dn_).ext ae).ext Y).fr Z eH).fr D eI)
  have eJ := (aq.djn (ac.ltF.le ab.n))
  have eK := (aM.djn (ac.ltF.le dU))
  have hY := (((((ac.frS ab dn_).ext ae).ext Y).frS Z eJ).frS D eK)
  have eL := (aM.djn (bh.lt.le ae.n))
  have hZ := ((hV.fr Z (aq.djn bh.lt)).fr D eL)
  have eM := (aM.djn (bM.lt.le ae.n))
  have h0 := ((hU.fr Z (aq.djn bM.lt)).fr D eM)
  have h1 := (hj.frS D df)
  have eN := (aU.djn aO.lt)
  have eO := (bf.djn aO.lt)
  refine ZJ (fun n α aQ => ∃ (e : Int), ∃ (cf : List (Bool × List (Int × Int × Int) × List (Int × Int × Int))), ∃ (o2 : Int), ∃ (cg : Int), ∃ (bi : List (Bool)), ∃ (ca : List (Int × Int × Int × Int)), ∃ (aI : Fp), ∃ (c4 : Value), ∃ (aL : Fp), ∃ (c5 : Value), ∃ (aJ : Fp), ZR (fun zz_ => ZaI U zz_.1 zz_.2.1 zz_.2.2.1 zz_.2.2.2.1 zz_.2.2.2.2.1 zz_.2.2.2.2.2) n (e, cf, o2, cg, bi, ca) = some bj /\ Has α [(5, pt_ a2 0), (7, pt_ ai 0), (9, pt_ aG 0), (33, aT), (34, i_ (U.length : Int)), (35, i_ e)] /\ FrS ([aG] ++ ([ai] ++ bG)) aK aQ /\ Nd Zc 3 aQ (.slice aR aW aS) cf aI [] /\ Row aQ ai [.slice aR aW aS, i_ o2, i_ cg] /\ Ow ZaC 1 aQ c4 bi aL /\ Sq Zo 4 aQ c5 ca aJ /\ Row aQ aG [c4, c5] /\ Inn bG aK aI /\ Inn cv aK aL /\ Inn cw aK aJ /\ Dj aI aL /\ Dj aI aJ /\ Dj aL aJ) dT ⟨0, dd.1, dd.2.1, dd.2.2, bl.1, bl.2.1, bG, (.slice bm bO bs), cv, (.slice bn bP bt), cw, f5, ha_, (fr_ D.wf), hX, hY, hZ, h0.sq, h1, ir_, ir_, ir_, (Dj.symm eN), (Dj.symm eO), eC⟩ ?_
  rintro dT α aQ ⟨e, cf, o2, cg, bi, ca, aI, c4, aL, c5, aJ, f4, dC, aa, aV, cN, av, aF, cO, ax, aN, bg, a7, bz, co⟩ i5 cJ
  obtain ⟨cQ, iL, rfl, bI, b6⟩ := Zy f4
  obtain ⟨β, rfl⟩ := Zk dC
  clear dC
  replace bI : ZaI U e cf o2 cg bi ca = some iL := bI
  unfold ZaI at bI
  obtain ⟨ay, aB, az, rfl⟩ := av.form
  obtain ⟨bo, bQ, bu, rfl⟩ := aF.form
  refine sq_ fun gl => g_' (q_ (.bool (decide (e < (U.length : Int)))) (Za (gl _ _ (sq_ fun gm => ?_))))
  refine wc_ (e < (U.length : Int)) (fun bH => ?_) fun bH => ?_
  ·have hl := Ze bH bI
   refine Zf (gm _ _ (sq_ fun cK => Zm (sq_ fun gn => g_' ?_)))
   obtain ⟨dz, hm⟩ := Zb hl
   have dV := (t_ (t_ ar.n ag.n) af.n)
   have eP := (b7.djn (bd.lt.le dV))
   have eQ := (b8.djn (bd.lt.le dV))
   have el := (ek.fr aa (Dj.app dg (Dj.app eQ eP)))
   refine el.ix_ 25 dz bH (le_ 89 0 (.agg #[.int .u8 ((gt U e).1), i_ ((gt U e).2.1), i_ ((gt U e).2.2.1), .int .u64 ((gt U e).2.2.2.1), i_ ((gt U e).2.2.2.2)]) el dz bH ?_)
   refine rk_ aa.wf [.int .u8 0, i_ 0, i_ 0, .int .u64 0, i_ 0] fun ah iQ V al cZ => ?_
   obtain ⟨ci, hb, O, aY⟩ := ra_ 89 0 V.wf cZ [.int .u8 ((gt U e).1), i_ ((gt U e).2.1), i_ ((gt U e).2.2.1), .int .u64 ((gt U e).2.2.2.1), i_ ((gt U e).2.2.2.2)] [.int .u8 ((gt U e).1), i_ ((gt U e).2.1), i_ ((gt U e).2.2.1), .int .u64 ((gt U e).2.2.2.1), i_ ((gt U e).2.2.2.2)]
   refine ek_ hb (Za (gn _ _ (sq_ fun gp => sq_ fun gq => g_' (q_ (pt_ ah 0) (lr_ 5 0 (.int .u8 ((gt U e).1)) aY (q_ (.bool (decide (((gt U e).1) = 1))) (Za (gq _ _ ?_))))))))
   obtain ⟨aX, dG, d9⟩ := bs_ hm
   refine ZC (fun α aZ => ∃ (bE : Fp) (c6 : Value) (bc : Fp), Has α [(5, pt_ a2 0), (7, pt_ ai 0), (9, pt_ aG 0), (12, pt_ ah 0), (33, aT), (34, i_ (U.length : Int)), (35, i_ e)] /\ FrS ([aG] ++ ([ai] ++ aI)) ci aZ /\ Nd Zc 3 aZ (.slice aR aW aS) aX.1 bE [] /\ Row aZ ai [.slice aR aW aS, i_ o2, i_ aX.2.1] /\ Sq Zo 4 aZ c6 aX.2.2 bc /\ Row aZ aG [.slice ay aB az, c6] /\ Inn aI ci bE /\ Inn aJ ci bc /\ Dj bE bc) (fun _ cL => ?_) (fun α aZ hM => ?_)
   ·refine wc_ (((gt U e).1) = 1) (fun cx => ?_) fun cx => ?_
    ·have hn := Ze cx dG
     refine sq_ fun gr => g_' (q_ (pt_ ai 0) (q_ (pt_ ah 1) (lr_ 3 1 (i_ ((gt U e).2.1)) aY (q_ (pt_ ah 2) (lr_ 3 2 (i_ ((gt U e).2.2.1)) aY (q_ (pt_ ah 3) (lr_ 27 3 (.int .u64 ((gt U e).2.2.2.1)) aY (q_ (pt_ ah 4) (lr_ 3 4 (i_ ((gt U e).2.2.2.2)) aY ?_)))))))))
     have h2 := ((aV.ext V).fr O (al.djn aV.lt))
     have gH := (t_ (t_ (t_ (t_ (t_ ab.n ae.n) Y.n) Z.n) D.n) aa.n)
     have dh := (al.djn (ac.ltF.le gH))
     have h3 := ((cN.ext V).frS O dh)
     have cR := (t_ (t_ (t_ (t_ ab.n ae.n) Y.n) Z.n) D.n)
     have eR := (ax.dj cq (ac.ltF.le cR))
     obtain ⟨jx, f9, ho⟩ := bs_ hn
     refine ck_ (ZfU O.wf h2 h3 (Dj.symm eR) f9) ?_
     rintro _ iS ⟨jv, jd, dx, rfl, aj, jj, bN, dN, jh, bK, ja⟩
     refine Za (gr _ _ (sq_ fun gs => g_' ?_))
     have gI := (t_ (t_ (t_ Y.n Z.n) D.n) aa.n)
     have eS := (al.djn (am.ltF.le gI))
     have eT := (aq.djn (aO.lt.le ab.n))
     have dW := (t_ (t_ Y.n Z.n) D.n)
     have di := (ax.dj (Dj.symm eT) (am.ltF.le dW))
     have dk := (aq.djn (ac.ltF.le ab.n))
     have c7 := (((cO.ext V).frS O eS).frS aj (Dj.app (Dj.symm dk) di))
     refine lr_ 33 0 (.agg #[.slice ay aB az, .slice bo bQ bu]) c7 (q_ (pt_ ah 1) ?_)
     have eU := (al.djn aV.lt)
     have bU := (aY.frS aj (Dj.app (Dj.symm dh) (Dj.symm eU)))
     refine lr_ 3 1 (i_ ((gt U e).2.1)) bU (q_ (pt_ ah 2) (lr_ 3 2 (i_ ((gt U e).2.2.1)) bU (q_ (pt_ ah 3) (lr_ 27 3 (.int .u64 ((gt U e).2.2.2.1)) bU (q_ (pt_ ah 4) (lr_ 3 4 (i_ ((gt U e).2.2.2.2)) bU ?_))))))
     have eV := (aN.dj (aU.djn ac.ltF) (ac.ltF.le cR))
     have em := (((av.ext V).fr O (al.djn av.lt)).fr aj (Dj.app (Dj.symm eV) a7))
     have eW := (bg.dj (bf.djn ac.ltF) (ac.ltF.le cR))
     have c8 := (((aF.ext V).fr O (al.djn aF.lt)).fr aj (Dj.app (Dj.symm eW) bz))
     obtain ⟨dc, f_, hq⟩ := bs_ ho
     refine ck_ (ZfM aj.wf em.sq c8 f_) ?_
     rintro _ iT ⟨rfl, ad⟩
     refine rk_ ad.wf [i_ 0, .slice none 0 0] fun i7 iU an aA hr => ?_
     obtain ⟨iV, hc, ao, ht⟩ := ra_ 44 0 an.wf hr [i_ dc, .slice none 0 0] [i_ dc, .slice none 0 0]
     refine ek_ hc (Za (gs _ _ (sq_ fun gu => g_' (lr_ 44 0 (.agg #[i_ dc, .slice none 0 0]) ht ?_))))
     obtain ⟨ev, ga, ea⟩ := bs_ hq
     refine ck_ (ZaH ao.wf (Sq.nil (enc := Zav) (sz := 2) (by decide)) ga) ?_
     rintro _ iW ⟨rfl, ap⟩
     refine q_ (.bool (!ev)) (Za (gu _ _ ?_))
     refine wb_ ((!ev)) (fun cy => ?_) fun cy => ?_
     ·have hu := Ze cy ea
      refine g_' ?_
      have gJ := (t_ (t_ (t_ (t_ (t_ (t_ (t_ Y.n Z.n) D.n) aa.n) V.n) O.n) aj.n) ad.n)
      have eX := (aA.djn (am.ltF.le gJ))
      have eo := ((((c7.frS ad dn_).ext an).frS ao eX).frS ap dn_)
      refine lr_ 33 0 (.agg #[.slice ay aB az, .slice bo bQ bu]) eo (q_ (pt_ ah 1) ?_)
      have gK := (t_ (t_ O.n aj.n) ad.n)
      have eY := (aA.djn (cZ.ltF.le gK))
      have ch := ((((bU.frS ad dn_).ext an).frS ao eY).frS ap dn_)
      refine lr_ 3 1 (i_ ((gt U e).2.1)) ch (q_ (pt_ ah 2) (lr_ 3 2 (i_ ((gt U e).2.2.1)) ch (q_ (pt_ ah 3) (lr_ 27 3 (.int .u64 ((gt U e).2.2.2.1)) ch (q_ (pt_ ah 4) (lr_ 3 4 (i_ ((gt U e).2.2.2.2)) ch (q_ (.agg #[i_ ((gt U e).2.1), i_ ((gt U e).2.2.1), .int .u64 ((gt U e).2.2.2.1), i_ ((gt U e).2.2.2.2)]) ?_)))))))
      have dX := (t_ (t_ (t_ V.n O.n) aj.n) ad.n)
      have eZ := (aA.djn (av.lt.le dX))
      have ep := ((((em.fr ad dn_).ext an).fr ao eZ).fr ap dn_)
      have e0 := (aA.djn (aF.lt.le dX))
      have h4 := ((((c8.fr ad dn_).ext an).fr ao e0).fr ap dn_)
      obtain ⟨ew, gb, hv⟩ := bs_ hu
      refine ck_ (ZgM ap.wf ep.sq h4 gb) ?_
      rintro _ iX ⟨jp, fW, rfl, a8, dO, cG⟩
      obtain ⟨bp, bR, bv, rfl⟩ := dO.form
      refine q_ (.tuple #[.agg #[.slice ay aB az, .slice bp bR bv], .bool ew.2]) (q_ (.agg #[.slice ay aB az, .slice bp bR bv]) (q_ (.bool ew.2) ?_))
      have h5 := (eo.frS a8 dn_)
      have ju := (ep.fr a8 dn_)
      obtain ⟨iY, hd, bZ, hw⟩ := ra_ 33 0 a8.wf h5 [.slice ay aB az, .slice bp bR bv] [.slice ay aB az, .slice bp bR bv]
      refine ek_ hd (Za ?_)
      have gL := (t_ aj.n ad.n)
      have e1 := (aA.djn (bN.lt.le ad.n))
      have gM := (t_ (t_ (t_ (t_ (t_ Y.n Z.n) D.n) aa.n) V.n) O.n)
      have e2 := (bK.dj di (am.ltF.le gM))
      have h6 := ((((((bN.fr ad dn_).ext an).fr ao e1).fr ap dn_).fr a8 dn_).fr bZ (Dj.symm e2))
      have gN := (t_ (t_ (t_ (t_ (t_ (t_ (t_ (t_ (t_ ab.n ae.n) Y.n) Z.n) D.n) aa.n) V.n) O.n) aj.n) ad.n)
      have e3 := (aA.djn (ac.ltF.le gN))
      have h7 := ((((((dN.frS ad dn_).ext an).frS ao e3).frS ap dn_).frS a8 dn_).frS bZ dk)
      have e4 := (aq.djn bM.lt)
      have e5 := (bg.dj (Dj.symm e4) (am.ltF.le dW))
      have gO := (t_ (t_ (t_ (t_ (t_ (t_ (t_ (t_ (t_ (t_ Y.n Z.n) D.n) aa.n) V.n) O.n) aj.n) ad.n) an.n) ao.n) ap.n)
      have e6 := (cG.dj e5 (am.ltF.le gO))
      have h8 := (dO.fr bZ (Dj.symm e6))
      have gP := (t_ (t_ (t_ (t_ aj.n ad.n) an.n) ao.n) ap.n)
      have gQ := (t_ V.n O.n)
      have e7 := (bK.dj bz (aF.lt.le gQ))
      have gR := (t_ (t_ (t_ ad.n an.n) ao.n) ap.n)
      have e8 := (cG.dj (Dj.symm e7) (bN.lt.le gR))
      obtain rfl := oi_ hv
      exact cL _ _ ⟨dx, (.slice bp bR bv), fW, ha_, (fs_ O.wf (fs_ O.wf (fs_ O.wf (fs_ O.wf ((fs_ O.wf (fs_ O.wf (fr_ O.wf) aj (Inn.app (Inn.right Inn.left) (Inn.right (Inn.right ir_)))) ad in_).extR an) ao (aA.fresh gL)) ap in_) a8 in_) bZ Inn.left), h6, h7, h8, hw, (Inn.trans ir_ (Nat.le_refl _) bK), (Inn.trans ir_ gP cG), (Dj.symm e8)⟩
     have hx := ZL cy ea
     refine Zf ?_
     have gS := (t_ aj.n ad.n)
     have e9 := (aA.djn (bN.lt.le ad.n))
     have h9 := ((((bN.fr ad dn_).ext an).fr ao e9).fr ap dn_)
     have gT := (t_ (t_ (t_ (t_ (t_ (t_ (t_ (t_ (t_ ab.n ae.n) Y.n) Z.n) D.n) aa.n) V.n) O.n) aj.n) ad.n)
     have e_ := (aA.djn (ac.ltF.le gT))
     have h_ := ((((dN.frS ad dn_).ext an).frS ao e_).frS ap dn_)
     have gU := (t_ (t_ (t_ V.n O.n) aj.n) ad.n)
     have fa := (aA.djn (aF.lt.le gU))
     have ia := ((((c8.fr ad dn_).ext an).fr ao fa).fr ap dn_)
     have gV := (t_ (t_ (t_ (t_ (t_ (t_ (t_ Y.n Z.n) D.n) aa.n) V.n) O.n) aj.n) ad.n)
     have fb := (aA.djn (am.ltF.le gV))
     have ib := ((((c7.frS ad dn_).ext an).frS ao fb).frS ap dn_)
     have gW := (t_ V.n O.n)
     have fc := (bK.dj bz (aF.lt.le gW))
     obtain rfl := oi_ hx
     exact cL _ _ ⟨dx, (.slice bo bQ bu), aJ, ha_, (fs_ O.wf (fs_ O.wf ((fs_ O.wf (fs_ O.wf (fr_ O.wf) aj (Inn.app (Inn.right Inn.left) (Inn.right (Inn.right ir_)))) ad in_).extR an) ao (aA.fresh gS)) ap in_), h9, h_, ia, ib, (Inn.trans ir_ (Nat.le_refl _) bK), ir_, fc⟩
    have hy := Zi cx dG
    refine Zf ?_
    have ic := ((aV.ext V).fr O (al.djn aV.lt))
    have gX := (t_ (t_ (t_ (t_ (t_ ab.n ae.n) Y.n) Z.n) D.n) aa.n)
    have fd := (al.djn (ac.ltF.le gX))
    have id := ((cN.ext V).frS O fd)
    have ie := ((aF.ext V).fr O (al.djn aF.lt))
    have gY := (t_ (t_ (t_ Y.n Z.n) D.n) aa.n)
    have ff := (al.djn (am.ltF.le gY))
    have ig := ((cO.ext V).frS O ff)
    obtain rfl := oi_ hy
    exact cL _ _ ⟨aI, (.slice bo bQ bu), aJ, ha_, (fr_ O.wf), ic, id, ie, ig, ir_, ir_, bz⟩
   obtain ⟨bE, c6, bc, dD, aw, dK, dL, b9, dM, aE, bJ, cp⟩ := hM
   obtain ⟨β, rfl⟩ := Zk dD
   clear dD
   obtain ⟨bW, cd, bY, rfl⟩ := b9.form
   refine gp _ _ (sq_ fun gx => g_' (q_ (pt_ ah 0) ?_))
   have dm := (al.djn aV.lt)
   have gZ := (t_ (t_ (t_ (t_ (t_ ab.n ae.n) Y.n) Z.n) D.n) aa.n)
   have dn := (al.djn (ac.ltF.le gZ))
   have g0 := (t_ (t_ (t_ Y.n Z.n) D.n) aa.n)
   have fg := (al.djn (am.ltF.le g0))
   have c9 := (aY.frS aw (Dj.app (Dj.symm fg) (Dj.app (Dj.symm dn) (Dj.symm dm))))
   refine lr_ 5 0 (.int .u8 ((gt U e).1)) c9 (q_ (.bool (decide (((gt U e).1) = 2))) (Za (gx _ _ ?_)))
   refine wc_ (((gt U e).1) = 2) (fun cz => ?_) fun cz => ?_
   ·have hz := Ze cz d9
    refine sq_ fun gy => g_' (q_ (pt_ ai 0) (q_ (pt_ ah 1) (lr_ 3 1 (i_ ((gt U e).2.1)) c9 ?_)))
    have cS := (t_ (t_ (t_ (t_ ab.n ae.n) Y.n) Z.n) D.n)
    have fh := (ax.dj cq (ac.ltF.le cS))
    have dY := (t_ (t_ (t_ (t_ (t_ (t_ (t_ ab.n ae.n) Y.n) Z.n) D.n) aa.n) V.n) O.n)
    have fj := (aE.dj fh (ac.ltF.le dY))
    obtain ⟨bk, gc, hA⟩ := bs_ hz
    refine ck_ (Zfb aw.wf dK dL fj gc) ?_
    rintro jw iZ ⟨_, je, dy, rfl, aH, jk, b_, dP, ji, bL, jb⟩
    refine Za (gy _ _ (sq_ fun gz => g_' ?_))
    have fm := (aq.djn (aO.lt.le ab.n))
    have dZ := (t_ (t_ Y.n Z.n) D.n)
    have fo := (ax.dj (Dj.symm fm) (am.ltF.le dZ))
    have g1 := (t_ (t_ (t_ (t_ (t_ Y.n Z.n) D.n) aa.n) V.n) O.n)
    have dp := (aE.dj fo (am.ltF.le g1))
    have dq := (aq.djn (ac.ltF.le ab.n))
    have c_ := (dM.frS aH (Dj.app (Dj.symm dq) dp))
    refine lr_ 33 0 (.agg #[.slice ay aB az, .slice bW cd bY]) c_ (q_ (pt_ ah 1) ?_)
    have fu := (aE.dj (Dj.symm dm) (cZ.ltF.le O.n))
    have eq := (c9.frS aH (Dj.app (Dj.symm dn) fu))
    refine lr_ 3 1 (i_ ((gt U e).2.1)) eq ?_
    have dr := (aN.dj (aU.djn ac.ltF) (ac.ltF.le cS))
    have fv := (aq.djn bh.lt)
    have fw := (aN.dj (Dj.symm fv) (am.ltF.le dZ))
    have d0 := (t_ V.n O.n)
    have dt := (aE.dj a7 (av.lt.le d0))
    have da := ((((av.ext V).fr O (al.djn av.lt)).fr aw (Dj.app (Dj.symm fw) (Dj.app (Dj.symm dr) a7))).fr aH (Dj.app (Dj.symm dr) dt))
    have fx := (bg.dj (bf.djn ac.ltF) (ac.ltF.le cS))
    have fy := (bJ.dj fx (ac.ltF.le dY))
    have db := (b9.fr aH (Dj.app (Dj.symm fy) cp))
    obtain ⟨iI, gd, ec⟩ := bs_ hA
    refine ck_ (ZcI aH.wf da.sq db gd) ?_
    rintro _ i0 ⟨rfl, ak⟩
    refine Za (gz _ _ ?_)
    refine wb_ (iI) (fun cA => ?_) fun cA => ?_
    ·have hB := Ze cA ec
     refine g_' ?_
     have es := (c_.frS ak dn_)
     refine lr_ 33 0 (.agg #[.slice ay aB az, .slice bW cd bY]) es (q_ (pt_ ah 1) ?_)
     have ih := (eq.frS ak dn_)
     refine lr_ 3 1 (i_ ((gt U e).2.1)) ih ?_
     have ij := (da.fr ak dn_)
     have ik := (db.fr ak dn_)
     obtain ⟨ex, ge, hC⟩ := bs_ hB
     refine ck_ (ZfE ak.wf ij.sq ik ge) ?_
     rintro _ i1 ⟨jq, fX, jr, fY, rfl, bA, dQ, dR, cH, cI, fz⟩
     obtain ⟨cj, cT, cm, rfl⟩ := dQ.form
     obtain ⟨ck, cU, cn, rfl⟩ := dR.form
     have im := (es.frS bA dn_)
     obtain ⟨i2, he, bB, hD⟩ := ra_ 33 0 bA.wf im [.slice cj cT cm, .slice ck cU cn] [.slice cj cT cm, .slice ck cU cn]
     refine ek_ he (Za (cK _ _ (g_' ?_)))
     obtain ⟨f1, hE⟩ := Zb hC
     refine w_' ((e + 1)) (Zn (by have := f1; omega)) (q_ (i_ (e + 1)) (Za ?_))
     have d1 := (t_ (t_ aa.n V.n) O.n)
     have g2 := (t_ (t_ (t_ (t_ (t_ (t_ Y.n Z.n) D.n) aa.n) V.n) O.n) aw.n)
     have fA := (bL.dj dp (am.ltF.le g2))
     have io := (((b_.fr ak dn_).fr bA dn_).fr bB (Dj.symm fA))
     have ip := (((dP.frS ak dn_).frS bA dn_).frS bB dq)
     have d2 := (t_ (t_ (t_ (t_ (t_ (t_ (t_ (t_ Y.n Z.n) D.n) aa.n) V.n) O.n) aw.n) aH.n) ak.n)
     have fB := (cH.djn (am.ltF.le d2))
     have iq := (dQ.fr bB (Dj.symm fB))
     have fC := (cI.djn (am.ltF.le d2))
     have ir := (dR.fr bB (Dj.symm fC))
     have g3 := (t_ (t_ (t_ aa.n V.n) O.n) aw.n)
     have d3 := (t_ (t_ (t_ (t_ (t_ aa.n V.n) O.n) aw.n) aH.n) ak.n)
     have fD := (cH.djn (b_.lt.le ak.n))
     have fE := (cI.djn (b_.lt.le ak.n))
     obtain rfl := oi_ hE
     exact cJ cQ _ _ lt_ ⟨(e + 1), bk.2.1, bk.2.2.1, bk.2.2.2, ex.1, ex.2, dy, (.slice cj cT cm), fX, (.slice ck cU cn), fY, b6, ha_, (fs_ D.wf (fs_ D.wf (fs_ D.wf (fs_ D.wf (fs_ D.wf (fs_ D.wf ((fs_ D.wf (fr_ D.wf) aa ir_).extR V) O (al.fresh aa.n)) aw (Inn.app Inn.left (Inn.app (Inn.right Inn.left) (Inn.trans (Inn.right (Inn.right ir_)) (Nat.le_refl _) ax)))) aH (Inn.app (Inn.right Inn.left) (Inn.trans (Inn.trans (Inn.right (Inn.right ir_)) (Nat.le_refl _) ax) d1 aE))) ak in_) bA in_) bB Inn.left), io, ip, iq, ir.sq, hD, (Inn.trans (Inn.trans (Inn.trans ir_ (Nat.le_refl _) ax) d1 aE) g3 bL), (cH.fresh d3), (cI.fresh d3), (Dj.symm fD), (Dj.symm fE), fz⟩
    have hF := ZL cA ec
    refine Zf (cK _ _ (g_' ?_))
    obtain ⟨f2, hG⟩ := Zb hF
    refine w_' ((e + 1)) (Zn (by have := f2; omega)) (q_ (i_ (e + 1)) (Za ?_))
    have cV := (t_ (t_ aa.n V.n) O.n)
    have it := (b_.fr ak dn_)
    have iu := (dP.frS ak dn_)
    have iv := (da.fr ak dn_)
    have iw := (db.fr ak dn_)
    have ix := (c_.frS ak dn_)
    have g4 := (t_ (t_ (t_ aa.n V.n) O.n) aw.n)
    have g5 := (t_ (t_ V.n O.n) aw.n)
    have fF := (bL.dj dt (av.lt.le g5))
    have fG := (bJ.dj (Dj.symm co) (av.lt.le d0))
    obtain rfl := oi_ hG
    exact cJ cQ _ _ lt_ ⟨(e + 1), bk.2.1, bk.2.2.1, bk.2.2.2, bi, aX.2.2, dy, (.slice ay aB az), aL, (.slice bW cd bY), bc, b6, ha_, (fs_ D.wf (fs_ D.wf (fs_ D.wf (fs_ D.wf ((fs_ D.wf (fr_ D.wf) aa ir_).extR V) O (al.fresh aa.n)) aw (Inn.app Inn.left (Inn.app (Inn.right Inn.left) (Inn.trans (Inn.right (Inn.right ir_)) (Nat.le_refl _) ax)))) aH (Inn.app (Inn.right Inn.left) (Inn.trans (Inn.trans (Inn.right (Inn.right ir_)) (Nat.le_refl _) ax) cV aE))) ak in_), it, iu, iv, iw, ix, (Inn.trans (Inn.trans (Inn.trans ir_ (Nat.le_refl _) ax) cV aE) g4 bL), (Inn.trans ir_ (Nat.le_refl _) aN), (Inn.trans (Inn.trans ir_ (Nat.le_refl _) bg) cV bJ), fF, (bL.dj cp b9.lt), (Dj.symm fG)⟩
   have hH := Zi cz d9
   refine Zf (cK _ _ (g_' ?_))
   obtain ⟨f3, hI⟩ := Zb hH
   refine w_' ((e + 1)) (Zn (by have := f3; omega)) (q_ (i_ (e + 1)) (Za ?_))
   have g6 := (t_ (t_ (t_ (t_ ab.n ae.n) Y.n) Z.n) D.n)
   have fH := (aN.dj (aU.djn ac.ltF) (ac.ltF.le g6))
   have fI := (aq.djn bh.lt)
   have g7 := (t_ (t_ Y.n Z.n) D.n)
   have fJ := (aN.dj (Dj.symm fI) (am.ltF.le g7))
   have iy := (((av.ext V).fr O (al.djn av.lt)).fr aw (Dj.app (Dj.symm fJ) (Dj.app (Dj.symm fH) a7)))
   have d4 := (t_ (t_ aa.n V.n) O.n)
   have d5 := (t_ V.n O.n)
   have fK := (aE.dj a7 (av.lt.le d5))
   have fL := (bJ.dj (Dj.symm co) (av.lt.le d5))
   obtain rfl := oi_ hI
   exact cJ cQ _ _ lt_ ⟨(e + 1), aX.1, o2, aX.2.1, bi, aX.2.2, bE, (.slice ay aB az), aL, (.slice bW cd bY), bc, b6, ha_, (fs_ D.wf (fs_ D.wf ((fs_ D.wf (fr_ D.wf) aa ir_).extR V) O (al.fresh aa.n)) aw (Inn.app Inn.left (Inn.app (Inn.right Inn.left) (Inn.trans (Inn.right (Inn.right ir_)) (Nat.le_refl _) ax)))), dK, dL, iy, b9, dM, (Inn.trans (Inn.trans ir_ (Nat.le_refl _) ax) d4 aE), (Inn.trans ir_ (Nat.le_refl _) aN), (Inn.trans (Inn.trans ir_ (Nat.le_refl _) bg) d4 bJ), fK, cp, (Dj.symm fL)⟩
  have hJ := Zi bH bI
  refine ZK (Zj (Zj (ZV ?_)))
  obtain rfl := oi_ hJ
  obtain rfl := Zx b6
  exact gk _ _ ⟨aI, (.slice ay aB az), aL, (.slice bo bQ bu), aJ, ha_, (fs_ D.wf (fr_ D.wf) aa ir_), aV, cN, av, aF, cO, (Inn.trans ir_ (Nat.le_refl _) ax), (Inn.trans ir_ (Nat.le_refl _) aN), (Inn.trans ir_ (Nat.le_refl _) bg), a7, bz, co⟩
 obtain ⟨a_, c0, ba, c3, bb, dB, cr, gE, gF, dI, dJ, gG, cD, cE, cF, eE, eF, eG⟩ := hM
 obtain ⟨β, rfl⟩ := Zk dB
 clear dB
 obtain ⟨bq, bS, bw, rfl⟩ := dI.form
 obtain ⟨br, bT, bx, rfl⟩ := dJ.form
 refine gi _ _ (sq_ fun gA => ?_)
 refine ZQ [0, 1, 2, 3, 4] (by kernel_rfl) ?_
 refine e_' (pt_ ai 0) (mr_ 33 0 (.agg #[.slice bq bS bw, .slice br bT bx]) gG (e_' (pt_ ai 0) ?_))
 have g8 := (t_ (t_ af.n au.n) ab.n)
 have du := (aq.djn (aD.ltF.le g8))
 have g9 := (t_ (t_ (t_ af.n au.n) ab.n) ae.n)
 have fM := (aM.djn (aD.ltF.le g9))
 have dv := (b7.djn (aD.ltF.le af.n))
 have dw := (b8.djn (aD.ltF.le af.n))
 have iz := ((((((((aD.frS af dn_).frS au dn_).frS ab dn_).ext ae).ext Y).frS Z du).frS D fM).frS cr (Dj.app du (Dj.app dw dv)))
 obtain ⟨ez, hf, bC, hL⟩ := ra_ 33 0 cr.wf iz [.slice bq bS bw, .slice br bT bx] [.slice bq bS bw, .slice br bT bx]
 refine fk_ hf (ZF) (e_' (.bool true) ?_)
 refine ZI ?_
 refine gA _ _ ?_
 refine Zg ?_
 refine Z3 (vs := [pt_ ai 0, .agg #[.slice bq bS bw, .slice br bT bx], .bool true]) (ZbU (by kernel_rfl) (ZM (Eq.trans (b := aL_ 33 (pt_ a2 0) ez) (by kernel_rfl) (hL.l_)) (rt_ (rfl)))) ?_
 have ce := (t_ (t_ ar.n ag.n) af.n)
 have cW := (t_ (t_ (t_ (t_ (t_ (t_ af.n au.n) ab.n) ae.n) Y.n) Z.n) D.n)
 have fN := (cD.dj dv (aD.ltF.le cW))
 have iA := (gE.fr bC (Dj.symm fN))
 have iB := (gF.frS bC (Dj.symm dw))
 have d6 := (t_ af.n au.n)
 have fO := (aU.djn (aD.ltF.le d6))
 have fP := (cE.dj fO (aD.ltF.le cW))
 have iC := (dI.fr bC (Dj.symm fP))
 have fQ := (bf.djn (aD.ltF.le d6))
 have fR := (cF.dj fQ (aD.ltF.le cW))
 have iE := (dJ.fr bC (Dj.symm fR))
 have cX := (t_ (t_ (t_ (t_ (t_ (t_ (t_ (t_ ar.n ag.n) af.n) au.n) ab.n) ae.n) Y.n) Z.n) D.n)
 have d7 := (t_ (t_ (t_ ar.n ag.n) af.n) au.n)
 have cY := (t_ (t_ (t_ (t_ ab.n ae.n) Y.n) Z.n) D.n)
 have fS := (cD.dj cq (ac.ltF.le cY))
 have fT := (cE.dj (aU.djn ac.ltF) (ac.ltF.le cY))
 have fU := (cF.dj (bf.djn ac.ltF) (ac.ltF.le cY))
 obtain rfl := oi_ hk
 exact (Zki ⟨(.slice aR aW aS), a_, ai, (.slice bq bS bw), ba, (.slice br bT bx), bb, rfl, (fs_ aC (fs_ aC (fs_ aC (fs_ aC (((fs_ aC (fs_ aC (fs_ aC (((f0_ aC).extR ar).extR ag) af in_) au in_) ab in_).extR ae).extR Y) Z (aq.fresh cP)) D (aM.fresh dS)) cr (Inn.app (aq.fresh cP) (Inn.app (b8.fresh ce) (b7.fresh ce)))) bC (dA.fresh ar.n)), iA, iB, iC, iE, (Inn.trans (b7.fresh ce) cX cD), (b8.fresh ce), (Inn.trans (aU.fresh d7) cX cE), (Inn.trans (bf.fresh d7) cX cF), fS, eE, (Dj.symm fT), eF, (Dj.symm fU), eG⟩)
theorem Zeh {H : AH} {e : Int} {r : Int}
    (O : WF H) (D : ZbR e = some r) :
    ACalls Tryz.prog 93 #[i_ e] H fun v H' => v = i_ r /\ H = H' := by
 refine ab_ Tryz.func93 ?_
 unfold ZbR at D
 refine sq_ fun k1 => g_' (q_ (i_ 0) (Za (k1 _ _ (sq_ fun k2 => g_' (q_ (i_ e) (l_' (i_ (max e 0)) (Zfx Tryz.prog [i_ e, i_ 0]) (ZeV _ _) (l_' (i_ (min (max e 0) 1048576)) (Zgp Tryz.prog [i_ (max e 0), i_ 1048576]) (Zhu _ _) (q_ (i_ (min (max e 0) 1048576)) (Za (k2 _ _ ?_))))))))))
 refine Zg ?_
 refine br_ [i_ (min (max e 0) 1048576)] ?_
 obtain rfl := oi_ D
 exact ⟨rfl, rfl⟩
theorem ZfA {H : AH} {e : Int} {D : Int} {V : Int} {O : Int} {U : Int} {r : Int × Int}
    (ac : WF H) (ab : Zct e D V O U = some r) :
    ACalls Tryz.prog 76 #[.agg #[i_ e, i_ D, i_ V, i_ O, i_ U]] H fun v H' => v = .tuple #[i_ r.1, i_ r.2] /\ FrS [] H H' := by
 refine ab_ Tryz.func76 ?_
 unfold Zct at ab
 refine sq_ fun k1 => g_' ?_
 refine rl_ ac [i_ e, i_ D, i_ V, i_ O, i_ U] fun b2 aa Y ak Z => ?_
 refine q_ (i_ 0) (q_ (i_ 0) (Za (k1 _ _ (sq_ fun ah => ?_))))
 refine ZQ [0, 1, 3, 4, 2, 5, 6, 7] (by kernel_rfl) ?_
 refine e_' (pt_ b2 0) (mr_ 3 0 (i_ e) Z (e_' (pt_ b2 1) ?_))
 refine Zcb (i_ D) (x := aL_ 3 (pt_ b2 1) aa) (by kernel_rfl) (Z.l_) ?_
 obtain ⟨ae, af, ai⟩ := bs_ ab
 refine dk_ (Zeh Y.wf af) ?_
 rintro _ _ ⟨rfl, rfl⟩
 refine ⟨ZaB (y := aL_ 3 (pt_ b2 1) aa) (by kernel_rfl) (Z.l_) (ZF), ?_⟩
 obtain ⟨ad, ag, aj⟩ := bs_ ai
 refine dk_ (Zeh Y.wf ag) ?_
 rintro _ _ ⟨rfl, rfl⟩
 refine ⟨Zab (by kernel_rfl) (ZF), ?_⟩
 refine e_' (i_ ae) (e_' (i_ ad) ?_)
 refine ZI ?_
 refine ah _ _ ?_
 refine Zg ?_
 refine br_ [i_ ae, i_ ad] ?_
 obtain rfl := oi_ aj
 exact ⟨rfl, ((f0_ ac).extR Y)⟩
theorem Zez {H : AH} {U : Value} {a6 : Fp} {l : List (Int × Int × Int)} {D : Int} {ad : Int} {ac : Int} {r : List (Int × Int × Int)}
    (af : WF H) (av : Sq Zc 3 H U l a6) (aK : Zbt l D ad ac = some r) :
    ACalls Tryz.prog 78 #[U, .agg #[i_ D, .int .u64 ad, i_ ac]] H fun v H' => ∃ (aT : Value) (aC : Fp), v = aT /\ FrS [] H H' /\ Ow Zc 3 H' aT r aC /\ Inn [] H aC := by
 refine ab_ Tryz.func78 ?_
 unfold Zbt at aK
 refine sq_ fun bl => g_' ?_
 refine rl_ af [i_ D, .int .u64 ad, i_ ac] fun ao aB O bW aR => ?_
 refine q_ (.slice none 0 0) (Za (bl _ _ (sq_ fun bf => g_' (q_ (i_ 0) (Za (bf _ _ (sq_ fun bg => ?_)))))))
 obtain ⟨V, be, bz⟩ := bs_ aK
 refine ZC (fun α az => Has α [(0, U), (3, pt_ ao 0), (5, i_ V)] /\ aB = az) (fun _ aN => ?_) (fun α az hM => ?_)
 ·refine Zm ?_
  obtain ⟨aQ, bd⟩ := Zu.1 be
  refine ZJ (fun n α aA => ∃ (e : Int), ZR (fun zz_ => Zbr l D zz_) n e = some V /\ Has α [(0, U), (3, pt_ ao 0), (5, i_ e)] /\ aB = aA) aQ ⟨0, bd, ha_, rfl⟩ ?_
  rintro aQ α aA ⟨e, bc, aF, rfl⟩ bQ bh
  obtain ⟨bq, bL, rfl, ae, aw⟩ := Zy bc
  obtain ⟨β, rfl⟩ := Zk aF
  clear aF
  replace ae : Zbr l D e = some bL := ae
  unfold Zbr at ae
  refine sq_ fun bi => sq_ fun aO => ?_
  refine ZQ [0, 1, 2, 3, 4, 5, 6, 7, 8, 9, 10, 11, 12, 13] (by kernel_rfl) ?_
  refine e_' (i_ e) (e_' (U) ?_)
  have al := (av.ext O)
  refine al.mn_ 132 ?_
  refine db_ (e < (l.length : Int)) (fun ab => ?_) fun ab => ?_
  ·have bA := Ze ab ae
   refine e_' (.bool true) (e_' (U) (e_' (i_ e) ?_))
   obtain ⟨ar, aS⟩ := Zb bA
   refine al.mx_ 132 ar ab (m_' (elp U 3 e.toNat 0) (Zw Tryz.prog 134 (elp U 3 e.toNat 0) 0) (Sq.fldq (d := 0) al ar ab (by kernel_rfl)) (me_ 3 0 (i_ ((gt l e).1)) al ar ab (e_' (pt_ ao 0) (mr_ 3 0 (i_ D) aR (e_' (.bool (decide (((gt l e).1) < D))) (e_' (.bool (decide (((gt l e).1) < D))) ?_))))))
   refine ZI ?_
   refine aO _ _ ?_
   refine wc_ (((gt l e).1) < D) (fun au => ?_) fun au => ?_
   ·have bB := Ze au aS
    refine Zf (bi _ _ (Zm (g_' (q_ (i_ e) ?_))))
    obtain ⟨a8, bC⟩ := Zb bB
    refine w_' ((e + 1)) (Zn (by have := a8; omega)) (q_ (i_ (e + 1)) (Za ?_))
    obtain rfl := oi_ bC
    exact bh bq _ _ lt_ ⟨(e + 1), aw, ha_, rfl⟩
   have bD := Zi au aS
   refine ZK (Zj (Zj (ZV ?_)))
   obtain rfl := oi_ bD
   obtain rfl := Zx aw
   exact aN _ _ ⟨ha_, rfl⟩
  have bE := Zi ab ae
  refine e_' (.bool false) (j_' (j_' (j_' (j_' (j_' (j_' (j_' (j_' (e_' (.bool false) ?_)))))))))
  refine ZI ?_
  refine aO _ _ ?_
  refine wb_ false (fun h => by cases h) fun _ => ?_
  refine ZK (Zj (Zj (ZV ?_)))
  obtain rfl := oi_ bE
  obtain rfl := Zx aw
  exact aN _ _ ⟨ha_, rfl⟩
 obtain ⟨aE, rfl⟩ := hM
 obtain ⟨β, rfl⟩ := Zk aE
 clear aE
 refine bg _ _ (sq_ fun bj => g_' (q_ (.slice none 0 0) (Za (bj _ _ (sq_ fun bk => g_' (q_ (.slice none 0 0) (q_ (U) (q_ (i_ V) ?_))))))))
 obtain ⟨aa, bF⟩ := Zb bz
 have aU := (av.ext O)
 obtain ⟨b5, bt, aM⟩ := Sq.cut (P := Tryz.prog) aU (t := 132) (by kernel_rfl) (lo := none) (hi := (some (i_ V))) (l := 0) (r := V.toNat) (rfl) (ZcH _ (by have := aa; omega)) (by have := aa; omega) (by have := aa; omega)
 obtain ⟨aW, br, aY, rfl⟩ := aM.form
 refine Zbg (.slice aW br aY) (by kernel_rfl) bt ?_
 obtain ⟨a_, bG⟩ := Zb bF
 obtain ⟨b6, bN, bT, bu, Y, aH, aj⟩ := Ow.append (P := Tryz.prog) 24 O.wf (Ow.nil (enc := Zc) (sz := 3) (by decide)) aM (fun _ _ => rfl) (at_ := #[132, 132]) rfl rfl (by kernel_rfl) (by kernel_rfl) (by decide) (by have := a_; first | omega | (simp only [List.length_cons, List.length_nil] at this ⊢; omega) | (simp at this ⊢; omega))
 obtain ⟨am, ax, ap, rfl⟩ := aH.form
 refine ZaN (.slice am ax ap) (by kernel_rfl) (bu) ?_
 refine q_ (.slice am ax ap) (Za (bk _ _ (sq_ fun bm => g_' (q_ (.slice am ax ap) ?_))))
 have bJ := (aR.frS Y dn_)
 refine lr_ 134 0 (.agg #[i_ D, .int .u64 ad, i_ ac]) bJ ?_
 refine Zbl (enc := Zc) (sz := 3) Y.wf [(D, ad, ac)] 1 (by decide) (fun _ _ => rfl) (fun _ _ => rfl) rfl (by kernel_rfl) fun b7 bU bO Z bX aI => ?_
 obtain ⟨bR, bY, bS, rfl⟩ := aI.form
 have bK := (aH.ext Z)
 obtain ⟨ba, bH⟩ := Zb bG
 obtain ⟨b8, bP, bV, bv, ai, aJ, aD⟩ := Ow.append (P := Tryz.prog) 24 Z.wf bK aI.sq (fun _ _ => rfl) (at_ := #[132, 132]) rfl rfl (by kernel_rfl) (by kernel_rfl) (by decide) (by have := ba; first | omega | (simp only [List.length_cons, List.length_nil] at this ⊢; omega) | (simp at this ⊢; omega))
 obtain ⟨an, ay, aq, rfl⟩ := aJ.form
 refine ZaN (.slice an ay aq) (by kernel_rfl) (bv) ?_
 refine q_ (.slice an ay aq) (Za (bm _ _ (sq_ fun bn => g_' (q_ (.slice an ay aq) (q_ (U) (q_ (i_ V) ?_))))))
 have aZ := (aj.djn (av.lt.le O.n))
 have bI := (((aU.fr Y dn_).ext Z).fr ai aZ)
 obtain ⟨b9, bw, aL⟩ := Sq.cut (P := Tryz.prog) bI (t := 132) (by kernel_rfl) (lo := (some (i_ V))) (hi := none) (l := V.toNat) (r := l.length) (ZcH _ (by have := aa; omega)) (rfl) (by have := aa; omega) (by have := aa; omega)
 obtain ⟨aV, bo, aX, rfl⟩ := aL.form
 refine Zbg (.slice aV bo aX) (by kernel_rfl) bw ?_
 obtain ⟨a7, bx⟩ := Zb bH
 obtain ⟨bZ, bM, a2, bs, a1, aG, bb⟩ := Ow.append (P := Tryz.prog) 24 ai.wf aJ aL (fun _ _ => rfl) (at_ := #[132, 132]) rfl rfl (by kernel_rfl) (by kernel_rfl) (by decide) (by have := a7; first | omega | (simp only [List.length_cons, List.length_nil] at this ⊢; omega) | (simp at this ⊢; omega))
 obtain ⟨ag, ak, ah, rfl⟩ := aG.form
 refine ZaN (.slice ag ak ah) (by kernel_rfl) (bs) ?_
 refine q_ (.slice ag ak ah) (Za (bn _ _ ?_))
 refine Zg ?_
 refine br_ [.slice ag ak ah] ?_
 have aP := (t_ (t_ O.n Y.n) Z.n)
 have bp := (t_ (t_ (t_ O.n Y.n) Z.n) ai.n)
 obtain rfl := oi_ bx
 exact ⟨(.slice ag ak ah), a2, rfl, (fs_ af (fs_ af ((fs_ af ((f0_ af).extR O) Y in_).extR Z) ai (aj.fresh O.n)) a1 (Inn.trans (aj.fresh O.n) aP aD)), aG, (Inn.trans (Inn.trans (aj.fresh O.n) aP aD) bp bb)⟩
theorem ZeN {H : AH} {aq : Value} {aY : Fp} {ac : Value} {aZ : Fp} {ay : List (Bool)} {Arcs : List (Int × Int × Int × Int)} {U : Int} {r : List (Int × Int × Int)}
    (ax : WF H) (a6 : Sq ZaC 1 H aq ay aY) (aD : Sq Zo 4 H ac Arcs aZ) (aG : ZbZ ay Arcs U = some r) :
    ACalls Tryz.prog 54 #[.agg #[aq, ac], i_ U] H fun v H' => ∃ (aR : Value) (aB : Fp), v = aR /\ FrS [] H H' /\ Ow Zc 3 H' aR r aB /\ Inn [] H aB := by
 refine ab_ Tryz.func54 ?_
 unfold ZbZ at aG
 refine sq_ fun bk => g_' ?_
 refine ZaG ax [aq, ac] (Zs (a6.one1) (Zs (aD.one1) (Z1))) (by kernel_rfl) fun aU af D bI bp => ?_
 refine q_ (.slice none 0 0) (Za (bk _ _ (sq_ fun bd => g_' (q_ (.slice none 0 0) (Za (bd _ _ (sq_ fun be => sq_ fun bf => g_' (q_ (pt_ aU 1) (lr_ 31 1 (ac) bp ?_)))))))))
 have aS := (aD.ext D)
 refine aS.ln_ 31 (q_ (i_ 0) (Za (bf _ _ ?_)))
 obtain ⟨aP, a_, bq⟩ := bs_ aG
 refine ZC (fun α am => ∃ (av : Value) (f25 : Fp), Has α [(5, av)] /\ FrS [] af am /\ Ow Zc 3 am av aP f25 /\ Inn [] af f25) (fun _ bg => ?_) (fun α am hM => ?_)
 ·refine Zm ?_
  obtain ⟨aM, a8⟩ := Zu.1 a_
  refine ZJ (fun n α an => ∃ (e : Int), ∃ (ae : List (Int × Int × Int)), ∃ (aw : Value), ∃ (aa : Fp), ZR (fun zz_ => ZbP Arcs U zz_.1 zz_.2) n (e, ae) = some aP /\ Has α [(1, i_ U), (5, aw), (9, ac), (10, i_ (Arcs.length : Int)), (11, i_ e)] /\ FrS [] af an /\ Ow Zc 3 an aw ae aa /\ Inn [] af aa) aM ⟨0, [], (.slice none 0 0), [], a8, ha_, (fr_ D.wf), (Ow.nil (by decide)), in_⟩ ?_
  rintro aM α an ⟨e, ae, aw, aa, a7, aF, O, Z, aH⟩ bH aI
  obtain ⟨aN, bD, rfl, ad, ar⟩ := Zy a7
  obtain ⟨β, rfl⟩ := Zk aF
  clear aF
  replace ad : ZbP Arcs U e ae = some bD := ad
  unfold ZbP at ad
  obtain ⟨a45, au, ao, rfl⟩ := Z.form
  refine sq_ fun bh => g_' (q_ (.bool (decide (e < (Arcs.length : Int)))) (Za (bh _ _ (sq_ fun bi => ?_))))
  refine wc_ (e < (Arcs.length : Int)) (fun ab => ?_) fun ab => ?_
  ·have br := Ze ab ad
   refine Zf (bi _ _ (sq_ fun aJ => Zm (sq_ fun bj => g_' ?_)))
   obtain ⟨aC, aQ⟩ := Zb br
   have aT := (aS.fr O dn_)
   refine aT.ix_ 31 aC ab (le_ 96 0 (.agg #[i_ ((gt Arcs e).1), i_ ((gt Arcs e).2.1), .int .u64 ((gt Arcs e).2.2.1), i_ ((gt Arcs e).2.2.2)]) aT aC ab ?_)
   refine rk_ O.wf [i_ 0, i_ 0, .int .u64 0, i_ 0] fun ah bE V aj bs => ?_
   obtain ⟨bF, bo, Y, al⟩ := ra_ 96 0 V.wf bs [i_ ((gt Arcs e).1), i_ ((gt Arcs e).2.1), .int .u64 ((gt Arcs e).2.2.1), i_ ((gt Arcs e).2.2.2)] [i_ ((gt Arcs e).1), i_ ((gt Arcs e).2.1), .int .u64 ((gt Arcs e).2.2.1), i_ ((gt Arcs e).2.2.2)]
   refine ek_ bo (Za (bj _ _ (sq_ fun bl => g_' (q_ (pt_ ah 1) (lr_ 3 1 (i_ ((gt Arcs e).2.1)) al (q_ (i_ U) (q_ (.bool (decide (((gt Arcs e).2.1) = U))) (Za (bl _ _ ?_)))))))))
   refine wc_ (((gt Arcs e).2.1) = U) (fun ap => ?_) fun ap => ?_
   ·have bt := Ze ap aQ
    refine g_' (q_ (.slice a45 au ao) (q_ (pt_ ah 0) (lr_ 3 0 (i_ ((gt Arcs e).1)) al (q_ (pt_ ah 2) (lr_ 27 2 (.int .u64 ((gt Arcs e).2.2.1)) al (q_ (pt_ ah 3) (lr_ 3 3 (i_ ((gt Arcs e).2.2.2)) al (q_ (.agg #[i_ ((gt Arcs e).1), .int .u64 ((gt Arcs e).2.2.1), i_ ((gt Arcs e).2.2.2)]) ?_))))))))
    have bA := ((Z.ext V).fr Y (aj.djn Z.lt))
    obtain ⟨bC, ba, bu⟩ := bs_ bt
    refine ck_ (Zez Y.wf bA.sq ba) ?_
    rintro bJ bG ⟨_, aX, rfl, aW, aL, bc⟩
    obtain ⟨az, aO, aA, rfl⟩ := aL.form
    refine q_ (.slice az aO aA) (Za (aJ _ _ (g_' ?_)))
    obtain ⟨a1, bv⟩ := Zb bu
    refine w_' ((e + 1)) (Zn (by have := a1; omega)) (q_ (i_ (e + 1)) (Za ?_))
    have bn := (t_ (t_ O.n V.n) Y.n)
    obtain rfl := oi_ bv
    exact aI aN _ _ lt_ ⟨(e + 1), bC, (.slice az aO aA), aX, ar, ha_, (fs_ D.wf (fs_ D.wf ((fs_ D.wf (fr_ D.wf) O in_).extR V) Y (aj.fresh O.n)) aW in_), aL, (bc.fresh bn)⟩
   have bw := Zi ap aQ
   refine Zf (aJ _ _ (g_' ?_))
   obtain ⟨a2, bx⟩ := Zb bw
   refine w_' ((e + 1)) (Zn (by have := a2; omega)) (q_ (i_ (e + 1)) (Za ?_))
   have bB := ((Z.ext V).fr Y (aj.djn Z.lt))
   obtain rfl := oi_ bx
   exact aI aN _ _ lt_ ⟨(e + 1), ae, (.slice a45 au ao), aa, ar, ha_, (fs_ D.wf ((fs_ D.wf (fr_ D.wf) O in_).extR V) Y (aj.fresh O.n)), bB, (aH.fresh (Nat.le_refl _))⟩
  have bz := Zi ab ad
  refine ZK (Zj (Zj (ZV ?_)))
  obtain rfl := oi_ bz
  obtain rfl := Zx ar
  exact bg _ _ ⟨(.slice a45 au ao), aa, ha_, (fs_ D.wf (fr_ D.wf) O in_), Z, (aH.fresh (Nat.le_refl _))⟩
 obtain ⟨av, f25, aE, aV, aK, bb⟩ := hM
 obtain ⟨β, rfl⟩ := Zk aE
 clear aE
 obtain ⟨ag, ak, ai, rfl⟩ := aK.form
 refine be _ _ (sq_ fun bm => g_' (q_ (.slice ag ak ai) (q_ (.slice ag ak ai) (Za (bm _ _ ?_)))))
 refine Zg ?_
 refine br_ [.slice ag ak ai] ?_
 obtain rfl := oi_ bq
 exact ⟨(.slice ag ak ai), f25, rfl, (fs_ ax ((f0_ ax).extR D) aV in_), aK, (bb.fresh D.n)⟩
theorem Zc4 {H : AH} {aq : Value} {aY : Fp} {ac : Value} {aZ : Fp} {ay : List (Bool)} {Arcs : List (Int × Int × Int × Int)} {U : Int} {r : List (Int × Int × Int)}
    (ax : WF H) (a6 : Sq ZaC 1 H aq ay aY) (aD : Sq Zo 4 H ac Arcs aZ) (aG : Zay ay Arcs U = some r) :
    ACalls Tryz.prog 55 #[.agg #[aq, ac], i_ U] H fun v H' => ∃ (aR : Value) (aB : Fp), v = aR /\ FrS [] H H' /\ Ow Zc 3 H' aR r aB /\ Inn [] H aB := by
 refine ab_ Tryz.func55 ?_
 unfold Zay at aG
 refine sq_ fun bk => g_' ?_
 refine ZaG ax [aq, ac] (Zs (a6.one1) (Zs (aD.one1) (Z1))) (by kernel_rfl) fun aU af D bI bp => ?_
 refine q_ (.slice none 0 0) (Za (bk _ _ (sq_ fun bd => g_' (q_ (.slice none 0 0) (Za (bd _ _ (sq_ fun be => sq_ fun bf => g_' (q_ (pt_ aU 1) (lr_ 31 1 (ac) bp ?_)))))))))
 have aS := (aD.ext D)
 refine aS.ln_ 31 (q_ (i_ 0) (Za (bf _ _ ?_)))
 obtain ⟨aP, a_, bq⟩ := bs_ aG
 refine ZC (fun α am => ∃ (av : Value) (f25 : Fp), Has α [(5, av)] /\ FrS [] af am /\ Ow Zc 3 am av aP f25 /\ Inn [] af f25) (fun _ bg => ?_) (fun α am hM => ?_)
 ·refine Zm ?_
  obtain ⟨aM, a8⟩ := Zu.1 a_
  refine ZJ (fun n α an => ∃ (e : Int), ∃ (ae : List (Int × Int × Int)), ∃ (aw : Value), ∃ (aa : Fp), ZR (fun zz_ => Zbm Arcs U zz_.1 zz_.2) n (e, ae) = some aP /\ Has α [(1, i_ U), (5, aw), (9, ac), (10, i_ (Arcs.length : Int)), (11, i_ e)] /\ FrS [] af an /\ Ow Zc 3 an aw ae aa /\ Inn [] af aa) aM ⟨0, [], (.slice none 0 0), [], a8, ha_, (fr_ D.wf), (Ow.nil (by decide)), in_⟩ ?_
  rintro aM α an ⟨e, ae, aw, aa, a7, aF, O, Z, aH⟩ bH aI
  obtain ⟨aN, bD, rfl, ad, ar⟩ := Zy a7
  obtain ⟨β, rfl⟩ := Zk aF
  clear aF
  replace ad : Zbm Arcs U e ae = some bD := ad
  unfold Zbm at ad
  obtain ⟨a45, au, ao, rfl⟩ := Z.form
  refine sq_ fun bh => g_' (q_ (.bool (decide (e < (Arcs.length : Int)))) (Za (bh _ _ (sq_ fun bi => ?_))))
  refine wc_ (e < (Arcs.length : Int)) (fun ab => ?_) fun ab => ?_
  ·have br := Ze ab ad
   refine Zf (bi _ _ (sq_ fun aJ => Zm (sq_ fun bj => g_' ?_)))
   obtain ⟨aC, aQ⟩ := Zb br
   have aT := (aS.fr O dn_)
   refine aT.ix_ 31 aC ab (le_ 96 0 (.agg #[i_ ((gt Arcs e).1), i_ ((gt Arcs e).2.1), .int .u64 ((gt Arcs e).2.2.1), i_ ((gt Arcs e).2.2.2)]) aT aC ab ?_)
   refine rk_ O.wf [i_ 0, i_ 0, .int .u64 0, i_ 0] fun ah bE V aj bs => ?_
   obtain ⟨bF, bo, Y, al⟩ := ra_ 96 0 V.wf bs [i_ ((gt Arcs e).1), i_ ((gt Arcs e).2.1), .int .u64 ((gt Arcs e).2.2.1), i_ ((gt Arcs e).2.2.2)] [i_ ((gt Arcs e).1), i_ ((gt Arcs e).2.1), .int .u64 ((gt Arcs e).2.2.1), i_ ((gt Arcs e).2.2.2)]
   refine ek_ bo (Za (bj _ _ (sq_ fun bl => g_' (q_ (pt_ ah 0) (lr_ 3 0 (i_ ((gt Arcs e).1)) al (q_ (i_ U) (q_ (.bool (decide (((gt Arcs e).1) = U))) (Za (bl _ _ ?_)))))))))
   refine wc_ (((gt Arcs e).1) = U) (fun ap => ?_) fun ap => ?_
   ·have bt := Ze ap aQ
    refine g_' (q_ (.slice a45 au ao) (q_ (pt_ ah 1) (lr_ 3 1 (i_ ((gt Arcs e).2.1)) al (q_ (pt_ ah 2) (lr_ 27 2 (.int .u64 ((gt Arcs e).2.2.1)) al (q_ (pt_ ah 3) (lr_ 3 3 (i_ ((gt Arcs e).2.2.2)) al (q_ (.agg #[i_ ((gt Arcs e).2.1), .int .u64 ((gt Arcs e).2.2.1), i_ ((gt Arcs e).2.2.2)]) ?_))))))))
    have bA := ((Z.ext V).fr Y (aj.djn Z.lt))
    obtain ⟨bC, ba, bu⟩ := bs_ bt
    refine ck_ (Zez Y.wf bA.sq ba) ?_
    rintro bJ bG ⟨_, aX, rfl, aW, aL, bc⟩
    obtain ⟨az, aO, aA, rfl⟩ := aL.form
    refine q_ (.slice az aO aA) (Za (aJ _ _ (g_' ?_)))
    obtain ⟨a1, bv⟩ := Zb bu
    refine w_' ((e + 1)) (Zn (by have := a1; omega)) (q_ (i_ (e + 1)) (Za ?_))
    have bn := (t_ (t_ O.n V.n) Y.n)
    obtain rfl := oi_ bv
    exact aI aN _ _ lt_ ⟨(e + 1), bC, (.slice az aO aA), aX, ar, ha_, (fs_ D.wf (fs_ D.wf ((fs_ D.wf (fr_ D.wf) O in_).extR V) Y (aj.fresh O.n)) aW in_), aL, (bc.fresh bn)⟩
   have bw := Zi ap aQ
   refine Zf (aJ _ _ (g_' ?_))
   obtain ⟨a2, bx⟩ := Zb bw
   refine w_' ((e + 1)) (Zn (by have := a2; omega)) (q_ (i_ (e + 1)) (Za ?_))
   have bB := ((Z.ext V).fr Y (aj.djn Z.lt))
   obtain rfl := oi_ bx
   exact aI aN _ _ lt_ ⟨(e + 1), ae, (.slice a45 au ao), aa, ar, ha_, (fs_ D.wf ((fs_ D.wf (fr_ D.wf) O in_).extR V) Y (aj.fresh O.n)), bB, (aH.fresh (Nat.le_refl _))⟩
  have bz := Zi ab ad
  refine ZK (Zj (Zj (ZV ?_)))
  obtain rfl := oi_ bz
  obtain rfl := Zx ar
  exact bg _ _ ⟨(.slice a45 au ao), aa, ha_, (fs_ D.wf (fr_ D.wf) O in_), Z, (aH.fresh (Nat.le_refl _))⟩
 obtain ⟨av, f25, aE, aV, aK, bb⟩ := hM
 obtain ⟨β, rfl⟩ := Zk aE
 clear aE
 obtain ⟨ag, ak, ai, rfl⟩ := aK.form
 refine be _ _ (sq_ fun bm => g_' (q_ (.slice ag ak ai) (q_ (.slice ag ak ai) (Za (bm _ _ ?_)))))
 refine Zg ?_
 refine br_ [.slice ag ak ai] ?_
 obtain rfl := oi_ bq
 exact ⟨(.slice ag ak ai), f25, rfl, (fs_ ax ((f0_ ax).extR D) aV in_), aK, (bb.fresh D.n)⟩
end Go.Vd
