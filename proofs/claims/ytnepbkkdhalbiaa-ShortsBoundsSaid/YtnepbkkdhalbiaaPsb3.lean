/- The walks of the functions (printed by a program of ours). -/
import Derived.Test.YtnepbkkdhalbiaaPsb2
import Derived.Test.YtnepbkkdhalbiaaPsbVeC
import Derived.Test.YtnepbkkdhalbiaaPsbISb
import Derived.Test.YtnepbkkdhalbiaaPsbVeN
import Derived.Test.YtnepbkkdhalbiaaPsbSoA
import Derived.Test.YtnepbkkdhalbiaaPsbVeV
set_option linter.unusedVariables false
set_option linter.unusedSimpArgs false
set_option linter.unusedSectionVars false
/-! (KSb9) -/

set_option maxRecDepth 100000
set_option maxHeartbeats 4000000
set_option linter.unusedVariables false
namespace Go.Vd
open Go.Proofs
attribute [local irreducible] Zm Zp aWp
theorem ZdC {H : AH} {ah : Value} {aR : Fp} {l : List (Int × Int × Int)} {r : List (Int × Int × Int)}
    (O : WF H) (aA : Sq Zu 3 H ah l aR) (aH : ZaX l = some r) :
    ACalls Try.prog 20 #[ah] H fun v H' => ∃ (aM : Value) (ay : Fp), v = aM /\ FrS [] H H' /\ Ow Zu 3 H' aM r ay /\ Inn [] H ay := by
 refine ab_ Try.func20 ?_
 unfold ZaX at aH
 refine sq_ fun a_ => g_' (q_ (.slice none 0 0) (Za (a_ _ _ (sq_ fun ba => g_' (q_ (.slice none 0 0) (Za (ba _ _ (sq_ fun bb => sq_ fun bc => g_' (q_ (ah) (aA.ln_ 46 (q_ (i_ 0) (Za (bc _ _ ?_)))))))))))))
 obtain ⟨aL, aX, bi⟩ := bs_ aH
 refine ZC (fun α ak => ∃ (au : Value) (ag : Fp), Has α [(3, au)] /\ FrS [] H ak /\ Ow Zu 3 ak au aL ag /\ Inn [] H ag) (fun _ aZ => ?_) (fun α ak hM => ?_)
 ·refine Zk ?_
  obtain ⟨aJ, aW⟩ := Zv.1 aX
  refine ZJ (fun n α al => ∃ (aa : List (Int × Int × Int)), ∃ (e : Int), ∃ (av : Value), ∃ (f29 : Fp), ZN (fun zz_ => ZbG l zz_.1 zz_.2) n (aa, e) = some aL /\ Has α [(3, av), (6, ah), (7, i_ (l.length : Int)), (8, i_ e)] /\ FrS [] H al /\ Ow Zu 3 al av aa f29 /\ Inn [] H f29) aJ ⟨[], 0, (.slice none 0 0), [], aW, ha_, (f0_ O), (Ow.nil (by decide)), in_⟩ ?_
  rintro aJ α al ⟨aa, e, av, f29, aV, aD, U, ai, ap⟩ bv a1
  obtain ⟨be, bq, rfl, Y, aG⟩ := Zx aV
  obtain ⟨β, rfl⟩ := Zh aD
  clear aD
  replace Y : ZbG l aa e = some bq := Y
  unfold ZbG at Y
  obtain ⟨aw, aK, ax, rfl⟩ := ai.form
  refine sq_ fun a2 => g_' (q_ (.bool (decide (e < (l.length : Int)))) (Za (a2 _ _ (sq_ fun a6 => ?_))))
  refine wc_ (e < (l.length : Int)) (fun V => ?_) fun V => ?_
  ·have bj := Ze V Y
   refine Zf (a6 _ _ (sq_ fun a7 => Zk (sq_ fun a8 => g_' ?_)))
   obtain ⟨az, bk⟩ := Zb bj
   have aN := (aA.fr U dn_)
   refine aN.ix_ 46 az V (le_ 110 0 (.agg #[i_ ((gt l e).1), i_ ((gt l e).2.1), .int .u64 ((gt l e).2.2)]) aN az V ?_)
   refine rk_ U.wf [i_ 0, i_ 0, .int .u64 0] fun an br ad aB bl => ?_
   obtain ⟨bs, bg, ae, ar⟩ := ra_ 110 0 ad.wf bl [i_ ((gt l e).1), i_ ((gt l e).2.1), .int .u64 ((gt l e).2.2)] [i_ ((gt l e).1), i_ ((gt l e).2.1), .int .u64 ((gt l e).2.2)]
   refine ek_ bg (Za (a8 _ _ (g_' (q_ (.slice aw aK ax) (q_ (pt_ an 0) (lr_ 3 0 (i_ ((gt l e).1)) ar (q_ (pt_ an 1) (lr_ 3 1 (i_ ((gt l e).2.1)) ar (q_ (pt_ an 2) (lr_ 27 2 (.int .u64 ((gt l e).2.2)) ar (q_ (.agg #[i_ ((gt l e).1), i_ ((gt l e).2.1), .int .u64 ((gt l e).2.2)]) ?_)))))))))))
   refine Zb9 (enc := Zu) (sz := 3) ae.wf [((gt l e).1, (gt l e).2.1, (gt l e).2.2)] 1 (by decide) (fun _ _ => rfl) (fun _ _ => rfl) rfl (by kernel_rfl) fun bB bx bt af bz aE => ?_
   obtain ⟨a66, bA, bw, rfl⟩ := aE.form
   have bp := (((ai.ext ad).fr ae (aB.djn ai.lt)).ext af)
   obtain ⟨aS, bm⟩ := Zb bk
   obtain ⟨bC, bu, aQ, bh, aP, aF, aU⟩ := Ow.append (P := Try.prog) 24 af.wf bp aE.sq (fun _ _ => rfl) (at_ := #[52, 52]) rfl rfl (by kernel_rfl) (by kernel_rfl) (by decide) (by have := aS; first | omega | (simp only [List.length_cons, List.length_nil] at this ⊢; omega) | (simp at this ⊢; omega))
   obtain ⟨am, aq, ao, rfl⟩ := aF.form
   refine ZaY (.slice am aq ao) (by kernel_rfl) (bh) ?_
   refine q_ (.slice am aq ao) (Za (a7 _ _ (g_' ?_)))
   obtain ⟨aT, bn⟩ := Zb bm
   refine w_' ((e + 1)) (Zo (by have := aT; omega)) (q_ (i_ (e + 1)) (Za ?_))
   have bf := (t_ (t_ (t_ U.n ad.n) ae.n) af.n)
   obtain rfl := oi_ bn
   exact a1 be _ _ lt_ ⟨(aa ++ [((gt l e).1, (gt l e).2.1, (gt l e).2.2)]), (e + 1), (.slice am aq ao), aQ, aG, ha_, (fs_ O ((fs_ O ((fs_ O (f0_ O) U in_).extR ad) ae (aB.fresh U.n)).extR af) aP (ap.fresh (Nat.le_refl _))), aF, (Inn.trans (ap.fresh (Nat.le_refl _)) bf aU)⟩
  have bo := Zi V Y
  refine ZL (Zj (Zj (ZV ?_)))
  obtain rfl := oi_ bo
  obtain rfl := ZG aG
  exact aZ _ _ ⟨(.slice aw aK ax), f29, ha_, (fs_ O (f0_ O) U in_), ai, (ap.fresh (Nat.le_refl _))⟩
 obtain ⟨au, ag, aC, aO, aI, aY⟩ := hM
 obtain ⟨β, rfl⟩ := Zh aC
 clear aC
 obtain ⟨ab, aj, ac, rfl⟩ := aI.form
 refine bb _ _ (sq_ fun bd => g_' (q_ (.slice ab aj ac) (q_ (.slice ab aj ac) (Za (bd _ _ ?_)))))
 refine Zg ?_
 refine br_ [.slice ab aj ac] ?_
 obtain rfl := oi_ bi
 exact ⟨(.slice ab aj ac), ag, rfl, (fs_ O (f0_ O) aO in_), aI, (aY.fresh (Nat.le_refl _))⟩
theorem Zd5 {H : AH} {O : Value} {au : Fp} {V : Value} {av : Fp} {a : List (Int × Int × Int)} {b : List (Int × Int × Int)} {r : Bool}
    (a1 : WF H) (ab : Sq Zu 3 H O a au) (ae : Sq Zu 3 H V b av) (ag : Za0 a b = some r) :
    ACalls Try.prog 19 #[O, V] H fun v H' => v = .bool r /\ H = H' := by
 refine ab_ Try.func19 ?_
 unfold Za0 at ag
 refine sq_ fun k1 => g_' (q_ (.bool false) (Za (k1 _ _ (sq_ fun k2 => sq_ fun k3 => g_' (q_ (O) (ab.ln_ 52 (q_ (V) (ae.ln_ 52 (q_ (.bool (!decide ((a.length : Int) = (b.length : Int)))) (Za (k3 _ _ ?_)))))))))))
 refine ZeC ((a.length : Int) = (b.length : Int)) (by kernel_rfl) rfl (fun ac => ?_) (fun ac => ?_)
 ·have aU := Zi ac ag
  refine sq_ fun aL => g_' (q_ (.bool false) (Za (aL _ _ ?_)))
  refine Zg (Zn ?_)
  refine br_ [.bool false] ?_
  obtain rfl := oi_ aU
  exact ⟨rfl, rfl⟩
 have aX := Ze ac ag
 refine Zf (k2 _ _ (sq_ fun aM => sq_ fun aN => g_' (q_ (O) (ab.ln_ 52 (q_ (i_ 0) (Za (aN _ _ ?_)))))))
 obtain ⟨ar, aA, ap⟩ := bs_ aX
 refine ZC (fun α ah => ∃ ao, ar = Sum.inr ao /\ Has α [] /\ H = ah) (fun _ aC => ?_) (fun α ah hM => ?_)
 ·refine Zk ?_
  obtain ⟨an, ay⟩ := Zv.1 aA
  refine ZJ (fun n α ai => ∃ (e : Int), ZN (fun zz_ => Za3 a b zz_) n e = some ar /\ Has α [(0, O), (1, V), (12, i_ (a.length : Int)), (13, i_ e)] /\ H = ai) an ⟨0, ay, ha_, rfl⟩ ?_
  rintro an α ai ⟨e, ax, al, rfl⟩ aY aD
  obtain ⟨aO, z25, rfl, Y, af⟩ := Zx ax
  obtain ⟨β, rfl⟩ := Zh al
  clear al
  replace Y : Za3 a b e = some z25 := Y
  unfold Za3 at Y
  refine sq_ fun aE => g_' (q_ (.bool (decide (e < (a.length : Int)))) (Za (aE _ _ (sq_ fun aF => ?_))))
  refine wc_ (e < (a.length : Int)) (fun U => ?_) fun U => ?_
  ·have aP := Ze U Y
   refine Zf (aF _ _ (sq_ fun aG => Zk (sq_ fun aH => g_' (q_ (i_ e) (q_ (i_ e) (Za (aH _ _ (sq_ fun aI => ?_))))))))
   refine ZW [0, 1, 2, 3, 4, 5, 6, 7, 8] (by kernel_rfl) ?_
   refine e_' (O) (e_' (i_ e) ?_)
   obtain ⟨aa, aQ⟩ := Zb aP
   refine ab.mx_ 52 aa U (me_ 60 0 (.agg #[i_ ((gt a e).1), i_ ((gt a e).2.1), .int .u64 ((gt a e).2.2)]) ab aa U (e_' (V) (e_' (i_ e) ?_)))
   obtain ⟨aj, aq⟩ := Zb aQ
   refine ae.mx_ 52 aa aj (me_ 60 0 (.agg #[i_ ((gt b e).1), i_ ((gt b e).2.1), .int .u64 ((gt b e).2.2)]) ae aa aj (m_' (.bool (!decide (((gt a e).1) = ((gt b e).1) /\ ((gt a e).2.1) = ((gt b e).2.1) /\ ((gt a e).2.2) = ((gt b e).2.2)))) (ZcD Try.prog .neq 60 (.tmp 19) (.tmp 23) (.agg #[i_ ((gt a e).1), i_ ((gt a e).2.1), .int .u64 ((gt a e).2.2)]) (.agg #[i_ ((gt b e).1), i_ ((gt b e).2.1), .int .u64 ((gt b e).2.2)])) (Zkn _ _ ((gt a e).1) ((gt a e).2.1) ((gt a e).2.2) ((gt b e).1) ((gt b e).2.1) ((gt b e).2.2)) ?_))
   refine ZR ?_
   refine aI _ _ ?_
   refine ZeC (((gt a e).1) = ((gt b e).1) /\ ((gt a e).2.1) = ((gt b e).2.1) /\ ((gt a e).2.2) = ((gt b e).2.2)) (by kernel_rfl) rfl (fun ad => ?_) (fun ad => ?_)
   ·have aR := Zi ad aq
    refine sq_ fun aJ => g_' (q_ (.bool false) (Za (aJ _ _ ?_)))
    refine Zg (Z5 (Zn (Zn (Z5 (Zn (Zn ?_))))))
    obtain ⟨aZ, am, aB⟩ := map_some aR
    subst aB
    obtain rfl := ZG af
    have az := elim_inl ap
    rw [az] at am
    refine br_ [.bool false] ?_
    obtain rfl := oi_ am
    exact ⟨rfl, rfl⟩
   have aS := Ze ad aq
   refine Zf (aG _ _ (g_' ?_))
   obtain ⟨aw, aT⟩ := Zb aS
   refine w_' ((e + 1)) (Zo (by have := aw; omega)) (q_ (i_ (e + 1)) (Za ?_))
   obtain rfl := oi_ aT
   exact aD aO _ _ lt_ ⟨(e + 1), af, ha_, rfl⟩
  have aV := Zi U Y
  refine ZL (Zj (Zj (ZV ?_)))
  obtain rfl := oi_ aV
  obtain rfl := ZG af
  exact aC _ _ ⟨_, rfl, trivial, rfl⟩
 obtain ⟨ao, rfl, ak, rfl⟩ := hM
 have aW := elim_inr ap
 obtain ⟨β, rfl⟩ := Zh ak
 clear ak
 refine aM _ _ (sq_ fun aK => g_' (q_ (.bool true) (Za (aK _ _ ?_))))
 refine Zg ?_
 refine br_ [.bool true] ?_
 obtain rfl := oi_ aW
 exact ⟨rfl, rfl⟩
theorem Zem {H : AH} {cr : Value} {gu : Fp} {cZ : Value} {gv : Fp} {cd : Int} {Arcs : List (Int × Int × Int)} {e8 : List (Int × Int × Int × Int × Int)} {ao : Int} {cc : Int} {ce : Int} {b8 : Int} {b6 : Int} {b7 : Int} {r : Bool}
    (aa : WF H) (dU : Sq Zq 3 H cr Arcs gu) (gH : Sq Za5 5 H cZ e8 gv) (eb : Zaw cd Arcs e8 ao cc ce b8 b6 b7 = some r) :
    ACalls Try.prog 4 #[.agg #[i_ cd, cr], cZ, i_ ao, .agg #[i_ cc, i_ ce, i_ b8, i_ b6, i_ b7]] H fun v H' => v = .bool r /\ FrS [] H H' := by
 refine ab_ Try.func4 ?_
 unfold Zaw at eb
 refine sq_ fun k1 => g_' ?_
 refine ZbJ aa [i_ cd, cr] (Zy (rfl) (Zy (dU.one1) (Zau))) (by kernel_rfl) fun b2 kJ aF lX ju => ?_
 refine rl_ aF.wf [i_ cc, i_ ce, i_ b8, i_ b6, i_ b7] fun li k4 aw lW eS => ?_
 refine q_ (.bool false) (Za (k1 _ _ (sq_ fun hh => sq_ fun hk => g_' ?_)))
 refine Zju 10 #[] (by kernel_rfl) ZfB ?_
 rintro _ _ ⟨rfl, rfl⟩
 refine q_ (.bool false) (Za (hk _ _ ?_))
 refine wb_ false (fun h => by cases h) fun _ => ?_
 refine Zf (hh _ _ (sq_ fun ej => g_' ?_))
 have j3 := (ju.ext aw)
 refine lr_ 24 0 (.agg #[i_ cd, cr]) j3 (q_ (cZ) ?_)
 have fc := ((dU.ext aF).ext aw)
 have fd := ((gH.ext aF).ext aw)
 obtain ⟨ky, eg, eW⟩ := bs_ eb
 rcases ky with mO | y24
 ·have i0 := ZkL eW
  refine ck_ (Zd4 aw.wf fc fd eg) ?_
  rintro _ kH ⟨rfl, cM⟩
  refine q_ (.tuple #[.pointer none, .agg #[.slice none 0 0, .slice none 0 0], .bool false]) (q_ (.pointer none) (q_ (.agg #[.slice none 0 0, .slice none 0 0]) (q_ (.bool false) ?_)))
  refine rk_ cM.wf [.slice none 0 0, .slice none 0 0] fun lg kI dN gI i5 => ?_
  refine q_ (.pointer none) ?_
  obtain ⟨kM, iG, go, mr⟩ := ra_ 33 0 dN.wf i5 [.slice none 0 0, .slice none 0 0] [.slice none 0 0, .slice none 0 0]
  refine ek_ iG (q_ (.bool false) (Za (ej _ _ (sq_ fun mj => sq_ fun hC => g_' (q_ (.bool false) (q_ (.bool true) (q_ (.bool true) (n_' (n_' (n_' (n_' (q_ (.bool true) (Za (hC _ _ ?_))))))))))))))
  refine wb_ true (fun _ => ?_) fun h => by cases h
  refine sq_ fun hF => g_' (q_ (.bool true) (Za (hF _ _ ?_)))
  refine Zg (Zn ?_)
  refine br_ [.bool true] ?_
  have ia := (t_ (t_ aF.n aw.n) cM.n)
  obtain rfl := oi_ i0
  exact ⟨rfl, (fs_ aa ((fs_ aa (((f0_ aa).extR aF).extR aw) cM in_).extR dN) go (gI.fresh ia))⟩
 have jb := ZkO eW
 refine ck_ (Zd4 aw.wf fc fd eg) ?_
 rintro _ kQ ⟨mA, lP, bA, mB, f47, mC, f49, rfl, aR, c9, ez, br, bs, mc, md, me, mf, lz, lA, lB, lC, lD, lE⟩
 obtain ⟨a70, mq, lr, rfl⟩ := c9.form
 obtain ⟨a1, bb, a6, rfl⟩ := br.form
 obtain ⟨a76, bc, a7, rfl⟩ := bs.form
 refine q_ (.tuple #[pt_ bA 0, .agg #[.slice a1 bb a6, .slice a76 bc a7], .bool true]) (q_ (pt_ bA 0) (q_ (.agg #[.slice a1 bb a6, .slice a76 bc a7]) (q_ (.bool true) ?_)))
 refine rk_ aR.wf [.slice none 0 0, .slice none 0 0] fun bj kZ aG ba b5 => ?_
 refine q_ (pt_ bA 0) ?_
 have ks := (bs.ext aG)
 have ku := (br.ext aG)
 obtain ⟨k0, iM, av, e6⟩ := ra_ 33 0 aG.wf b5 [.slice a1 bb a6, .slice a76 bc a7] [.slice a1 bb a6, .slice a76 bc a7]
 refine ek_ iM (q_ (.bool true) (Za (ej _ _ (sq_ fun h2 => sq_ fun h3 => g_' (q_ (.bool true) (q_ (.bool false) (q_ (.bool false) (lr_ 33 0 (.agg #[.slice a1 bb a6, .slice a76 bc a7]) e6 (q_ (i_ ao) ?_)))))))))
 have fz := (ku.fr av (ba.djn br.lt))
 have fA := (ks.fr av (ba.djn bs.lt))
 obtain ⟨du, hb, e7⟩ := bs_ jb
 refine ck_ (Zco av.wf fz.sq fA hb) ?_
 rintro _ k5 ⟨rfl, aq⟩
 refine q_ (.bool (!du)) (q_ (.bool (!du)) (Za (h3 _ _ ?_)))
 refine wb_ ((!du)) (fun cO => ?_) fun cO => ?_
 ·have iN := Ze cO e7
  refine sq_ fun he => g_' (q_ (.bool true) (Za (he _ _ ?_)))
  refine Zg (Zn ?_)
  refine br_ [.bool true] ?_
  have h7 := (t_ (t_ aF.n aw.n) aR.n)
  obtain rfl := oi_ iN
  exact ⟨rfl, (fs_ aa (fs_ aa ((fs_ aa (((f0_ aa).extR aF).extR aw) aR in_).extR aG) av (ba.fresh h7)) aq in_)⟩
 have iO := ZK cO e7
 refine Zf (h2 _ _ (sq_ fun hf => g_' (q_ (pt_ bA 0) (q_ (i_ ao) (q_ (.agg #[i_ 0, i_ 1048576, i_ 0, i_ 0, i_ 0]) ?_)))))
 have e9 := (((c9.ext aG).fr av (ba.djn c9.lt)).fr aq dn_)
 have e_ := (((ez.ext aG).frS av (ba.djn ez.ltF)).frS aq dn_)
 obtain ⟨mK, gZ, iP⟩ := bs_ iO
 refine ck_ (ZdZ aq.wf e9 e_ gZ) ?_
 rintro _ kD ⟨ms, lF, cE, lG, rfl, ar, eq, h4, l0, l1, lu⟩
 obtain ⟨aI, aO, aK, rfl⟩ := eq.form
 refine q_ (.tuple #[.slice aI aO aK, cE]) (q_ (.slice aI aO aK) (q_ (cE) (q_ (.slice aI aO aK) (q_ (cE) (Za (hf _ _ (sq_ fun hg => g_' (q_ (pt_ bA 0) (q_ (i_ ao) (q_ (.agg #[i_ 1048576, i_ 1048576, i_ 0, i_ 0, i_ 0]) ?_))))))))))
 have fa := (e9.fr ar dn_)
 have fb := (e_.frS ar dn_)
 obtain ⟨mL, g0, iQ⟩ := bs_ iP
 refine ck_ (ZdZ ar.wf fa fb g0) ?_
 rintro _ kE ⟨mt, lH, cF, lI, rfl, ak, er, h5, l2, l3, lv⟩
 obtain ⟨aJ, aP, aL, rfl⟩ := er.form
 refine q_ (.tuple #[.slice aJ aP aL, cF]) (q_ (.slice aJ aP aL) (q_ (cF) (q_ (.slice aJ aP aL) (q_ (cF) (Za (hg _ _ (sq_ fun hj => g_' (q_ (pt_ bA 0) (q_ (i_ ao) ?_)))))))))
 have fO := (ba.djn (eS.ltF.le aR.n))
 have j0 := ((((((eS.frS aR dn_).ext aG).frS av fO).frS aq dn_).frS ar dn_).frS ak dn_)
 refine lr_ 44 0 (.agg #[i_ cc, i_ ce, i_ b8, i_ b6, i_ b7]) j0 ?_
 have j1 := (fa.fr ak dn_)
 have j2 := (fb.frS ak dn_)
 obtain ⟨mM, g1, iR⟩ := bs_ iQ
 refine ck_ (ZdZ ak.wf j1 j2 g1) ?_
 rintro _ fC ⟨mu, lJ, cG, lK, rfl, ap, es, h6, l4, l5, lw⟩
 obtain ⟨aD, aH, aE, rfl⟩ := es.form
 refine q_ (.tuple #[.slice aD aH aE, cG]) (q_ (.slice aD aH aE) (q_ (cG) (q_ (.slice aD aH aE) (q_ (cG) (Za (hj _ _ (sq_ fun hl => sq_ fun hm => ?_)))))))
 obtain ⟨eO, ec, eT⟩ := bs_ iR
 refine ZC (fun α dv => Has α [(2, i_ ao), (10, pt_ bj 0), (12, .slice aI aO aK), (14, .slice aJ aP aL), (16, .slice aD aH aE), (79, .bool eO)] /\ fC = dv) (fun _ cx => ?_) (fun α dv hM => ?_)
 ·refine g_' (q_ (cE) ?_)
  have j4 := ((h4.fr ak dn_).fr ap dn_)
  rcases (j4).cases with ⟨cP, rfl⟩ | ⟨cP, jX, kv, rfl⟩
  ·have eU := Ze cP ec
   refine q_ (.bool false) (q_ (.bool false) (q_ (cF) ?_))
   have j5 := (h5.fr ap dn_)
   rcases (j5).cases with ⟨cQ, rfl⟩ | ⟨cQ, jY, kw, rfl⟩
   ·have eV := Ze cQ eU
    refine q_ (.bool false) (q_ (.bool false) (q_ (.bool false) (q_ (cG) ?_)))
    rcases (h6).cases with ⟨cR, rfl⟩ | ⟨cR, jZ, kx, rfl⟩
    ·have iS := Ze cR eV
     refine q_ (.bool false) (q_ (.bool false) (Za ?_))
     obtain rfl := oi_ iS
     exact cx _ _ ⟨ha_, rfl⟩
    have iT := Zi cR eV
    refine l_' (.bool true) (ZcD Try.prog .neq 38 (.tmp 77) (.const .nilIface) (.iface jZ kx) .nilIface) (ZcU (by kernel_rfl)) (q_ (.bool true) (Za ?_))
    obtain rfl := oi_ iT
    exact cx _ _ ⟨ha_, rfl⟩
   have iU := Zi cQ eU
   refine l_' (.bool true) (ZcD Try.prog .neq 38 (.tmp 73) (.const .nilIface) (.iface jY kw) .nilIface) (ZcU (by kernel_rfl)) (q_ (.bool true) (q_ (.bool true) (n_' (n_' (q_ (.bool true) (Za ?_))))))
   obtain rfl := oi_ iU
   exact cx _ _ ⟨ha_, rfl⟩
  have iV := Zi cP ec
  refine l_' (.bool true) (ZcD Try.prog .neq 38 (.tmp 70) (.const .nilIface) (.iface jX kv) .nilIface) (ZcU (by kernel_rfl)) (q_ (.bool true) (n_' (n_' (q_ (.bool true) (q_ (.bool true) (n_' (n_' (q_ (.bool true) (Za ?_)))))))))
  obtain rfl := oi_ iV
  exact cx _ _ ⟨ha_, rfl⟩
 obtain ⟨dW, rfl⟩ := hM
 obtain ⟨β, rfl⟩ := Zh dW
 clear dW
 refine hm _ _ ?_
 refine wb_ (eO) (fun cS => ?_) fun cS => ?_
 ·have iW := Ze cS eT
  refine sq_ fun hn => g_' (q_ (.bool false) (Za (hn _ _ ?_)))
  refine Zg (Zn ?_)
  refine br_ [.bool false] ?_
  have h8 := (t_ (t_ aF.n aw.n) aR.n)
  obtain rfl := oi_ iW
  exact ⟨rfl, (fs_ aa (fs_ aa (fs_ aa (fs_ aa (fs_ aa ((fs_ aa (((f0_ aa).extR aF).extR aw) aR in_).extR aG) av (ba.fresh h8)) aq in_) ar in_) ak in_) ap in_)⟩
 have iX := ZK cS eT
 refine Zf (hl _ _ (sq_ fun ho => g_' ?_))
 have fe := ((((e6.frS aq dn_).frS ar dn_).frS ak dn_).frS ap dn_)
 refine lr_ 33 0 (.agg #[.slice a1 bb a6, .slice a76 bc a7]) fe (q_ (i_ ao) ?_)
 have ff := ((((fz.fr aq dn_).fr ar dn_).fr ak dn_).fr ap dn_)
 have fg := ((((fA.fr aq dn_).fr ar dn_).fr ak dn_).fr ap dn_)
 obtain ⟨mN, g2, iY⟩ := bs_ iX
 refine ck_ (ZdR ap.wf ff.sq fg g2) ?_
 rintro _ kF ⟨mv, lL, mw, lM, rfl, ax, et, eu, l6, l7, lx⟩
 obtain ⟨k9, mk, lj, rfl⟩ := et.form
 obtain ⟨k_, ml, ll, rfl⟩ := eu.form
 obtain ⟨bg, g3, iZ⟩ := bs_ iY
 refine ck_ (ZeP ax.wf et.sq eu.sq g3) ?_
 rintro mx kG ⟨_, gq, rfl, ay, bf, l8⟩
 obtain ⟨aT, aZ, aU, rfl⟩ := bf.form
 refine q_ (.slice aT aZ aU) (Za (ho _ _ (sq_ fun hq => g_' (q_ (.slice none 0 0) (q_ (.slice none 0 0) (Za (hq _ _ (sq_ fun hr => sq_ fun ht => g_' ?_))))))))
 have fh := ((fe.frS ax dn_).frS ay dn_)
 refine lr_ 33 0 (.agg #[.slice a1 bb a6, .slice a76 bc a7]) fh (q_ (i_ ao) ?_)
 have fj := ((ff.fr ax dn_).fr ay dn_)
 have fk := ((fg.fr ax dn_).fr ay dn_)
 obtain ⟨U, g4, i1⟩ := bs_ iZ
 refine ck_ (ZgN ay.wf fj.sq fk g4) ?_
 rintro my bv ⟨_, lN, rfl, ae, c7, l9⟩
 obtain ⟨bx, bH, bB, rfl⟩ := c7.form
 refine c7.sq.ln_ 53 (q_ (i_ 0) (Za (ht _ _ ?_)))
 obtain ⟨ai, gV, i2⟩ := bs_ i1
 refine ZC (fun α bK => ∃ (df : Value) (cj : Fp) (dg : Value) (ck : Fp), Has α [(12, .slice aI aO aK), (14, .slice aJ aP aL), (16, .slice aD aH aE), (19, df), (20, dg)] /\ FrS [] bv bK /\ Ow Zu 3 bK df ai.1 cj /\ Ow Zu 3 bK dg ai.2 ck /\ Inn [] bv cj /\ Inn [] bv ck /\ Dj cj ck) (fun _ hu => ?_) (fun α bK hM => ?_)
 ·refine Zk ?_
  obtain ⟨eC, gP⟩ := Zv.1 gV
  refine ZJ (fun n α b9 => ∃ (arcs3 : List (Int × Int × Int)), ∃ (walks4 : List (Int × Int × Int)), ∃ (e : Int), ∃ (dh : Value), ∃ (aW : Fp), ∃ (di : Value), ∃ (aX : Fp), ZN (fun zz_ => Zai ao y24 bg U zz_.1 zz_.2.1 zz_.2.2) n (arcs3, walks4, e) = some ai /\ Has α [(2, i_ ao), (10, pt_ bj 0), (12, .slice aI aO aK), (14, .slice aJ aP aL), (16, .slice aD aH aE), (18, .slice aT aZ aU), (19, dh), (20, di), (86, .slice bx bH bB), (87, i_ (U.length : Int)), (88, i_ e)] /\ FrS [] bv b9 /\ Ow Zu 3 b9 dh arcs3 aW /\ Ow Zu 3 b9 di walks4 aX /\ Inn [] bv aW /\ Inn [] bv aX /\ Dj aW aX) eC ⟨[], [], 0, (.slice none 0 0), [], (.slice none 0 0), [], gP, ha_, (fr_ ae.wf), (Ow.nil (by decide)), (Ow.nil (by decide)), in_, in_, dn_⟩ ?_
  rintro eC α b9 ⟨arcs3, walks4, e, dh, aW, di, aX, gK, dY, al, bF, bG, bp, bq, dJ⟩ k6 hv
  obtain ⟨h9, kA, rfl, bU, ea⟩ := Zx gK
  obtain ⟨β, rfl⟩ := Zh dY
  clear dY
  replace bU : Zai ao y24 bg U arcs3 walks4 e = some kA := bU
  unfold Zai at bU
  obtain ⟨dC, eD, dG, rfl⟩ := bF.form
  obtain ⟨dD, eE, dH, rfl⟩ := bG.form
  refine sq_ fun hw => g_' (q_ (.bool (decide (e < (U.length : Int)))) (Za (hw _ _ (sq_ fun hx => ?_))))
  refine wc_ (e < (U.length : Int)) (fun bQ => ?_) fun bQ => ?_
  ·have i3 := Ze bQ bU
   refine Zf (hx _ _ (sq_ fun hy => Zk (sq_ fun hz => g_' ?_)))
   obtain ⟨dQ, i4⟩ := Zb i3
   have fm := (c7.fr al dn_)
   refine fm.sq.ix_ 53 dQ bQ (le_ 56 0 (.agg #[i_ ((gt U e).1), .int .u64 ((gt U e).2.1), i_ ((gt U e).2.2)]) fm.sq dQ bQ ?_)
   refine rk_ al.wf [i_ 0, .int .u64 0, i_ 0] fun a2 kK az a_ cB => ?_
   obtain ⟨kL, iF, am, i6⟩ := ra_ 56 0 az.wf cB [i_ ((gt U e).1), .int .u64 ((gt U e).2.1), i_ ((gt U e).2.2)] [i_ ((gt U e).1), .int .u64 ((gt U e).2.1), i_ ((gt U e).2.2)]
   refine ek_ iF (Za (hz _ _ (sq_ fun hA => g_' ?_)))
   have h_ := (t_ (t_ (t_ (t_ (t_ (t_ (t_ (t_ av.n aq.n) ar.n) ak.n) ap.n) ax.n) ay.n) ae.n) al.n)
   have fP := (a_.djn (b5.ltF.le h_))
   have fo := ((((fh.frS ae dn_).frS al dn_).ext az).frS am fP)
   refine lr_ 33 0 (.agg #[.slice a1 bb a6, .slice a76 bc a7]) fo (q_ (i_ ao) ?_)
   have eF := (t_ (t_ (t_ (t_ (t_ (t_ (t_ (t_ (t_ aG.n av.n) aq.n) ar.n) ak.n) ap.n) ax.n) ay.n) ae.n) al.n)
   have fQ := (a_.djn (br.lt.le eF))
   have fu := ((((fj.fr ae dn_).fr al dn_).ext az).fr am fQ)
   have fR := (a_.djn (bs.lt.le eF))
   have fv := ((((fk.fr ae dn_).fr al dn_).ext az).fr am fR)
   obtain ⟨V, g5, i7⟩ := bs_ i4
   refine ck_ (Zgk am.wf fu.sq fv g5) ?_
   rintro mz bw ⟨_, lO, rfl, ab, c8, eh⟩
   obtain ⟨cf, cz, cg, rfl⟩ := c8.form
   refine c8.sq.ln_ 53 (q_ (i_ 0) (Za (hA _ _ ?_)))
   obtain ⟨bZ, gW, i8⟩ := bs_ i7
   refine ZC (fun α b_ => ∃ (dk : Value) (bN : Fp) (dm : Value) (bO : Fp), Has α [(2, i_ ao), (10, pt_ bj 0), (12, .slice aI aO aK), (14, .slice aJ aP aL), (16, .slice aD aH aE), (18, .slice aT aZ aU), (19, dk), (20, dm), (86, .slice bx bH bB), (87, i_ (U.length : Int)), (88, i_ e)] /\ FrS (aW ++ aX) bw b_ /\ Ow Zu 3 b_ dk bZ.1 bN /\ Ow Zu 3 b_ dm bZ.2 bO /\ Inn aW bw bN /\ Inn aX bw bO /\ Dj bN bO) (fun _ hB => ?_) (fun α b_ hM => ?_)
   ·refine Zk ?_
    obtain ⟨eG, gQ⟩ := Zv.1 gW
    have j6 := (((bF.ext az).fr am (a_.djn bF.lt)).fr ab dn_)
    have j7 := (((bG.ext az).fr am (a_.djn bG.lt)).fr ab dn_)
    refine ZJ (fun n α ca => ∃ (arcs0 : List (Int × Int × Int)), ∃ (walks1 : List (Int × Int × Int)), ∃ (O : Int), ∃ (dn : Value), ∃ (a8 : Fp), ∃ (dp : Value), ∃ (bo : Fp), ZN (fun zz_ => Z3 y24 bg U e V zz_.1 zz_.2.1 zz_.2.2) n (arcs0, walks1, O) = some bZ /\ Has α [(2, i_ ao), (10, pt_ bj 0), (12, .slice aI aO aK), (14, .slice aJ aP aL), (16, .slice aD aH aE), (18, .slice aT aZ aU), (19, dn), (20, dp), (22, pt_ a2 0), (86, .slice bx bH bB), (87, i_ (U.length : Int)), (88, i_ e), (94, .slice cf cz cg), (95, i_ (V.length : Int)), (96, i_ O)] /\ FrS (aW ++ aX) bw ca /\ Ow Zu 3 ca dn arcs0 a8 /\ Ow Zu 3 ca dp walks1 bo /\ Inn aW bw a8 /\ Inn aX bw bo /\ Dj a8 bo) eG ⟨arcs3, walks4, 0, (.slice dC eD dG), aW, (.slice dD eE dH), aX, gQ, ha_, (fr_ ab.wf), j6, j7, ir_, ir_, dJ⟩ ?_
    rintro eG α ca ⟨arcs0, walks1, O, dn, a8, dp, bo, gL, d0, aj, aM, aN, be, bX, bD⟩ k7 c0
    obtain ⟨da, kB, rfl, bV, cu⟩ := Zx gL
    obtain ⟨β, rfl⟩ := Zh d0
    clear d0
    replace bV : Z3 y24 bg U e V arcs0 walks1 O = some kB := bV
    unfold Z3 at bV
    obtain ⟨bz, bI, bC, rfl⟩ := aM.form
    obtain ⟨bh, bt, bk, rfl⟩ := aN.form
    refine sq_ fun hD => g_' (q_ (.bool (decide (O < (V.length : Int)))) (Za (hD _ _ (sq_ fun hE => ?_))))
    refine wc_ (O < (V.length : Int)) (fun bR => ?_) fun bR => ?_
    ·have i9 := Ze bR bV
     refine Zf (hE _ _ (sq_ fun c3 => Zk (sq_ fun hG => g_' ?_)))
     obtain ⟨dR, ja⟩ := Zb i9
     have eH := (t_ az.n am.n)
     have fT := (eh.djn (bG.lt.le eH))
     have fU := (eh.djn (bF.lt.le eH))
     have fw := (c8.fr aj (Dj.app (Dj.symm fU) (Dj.symm fT)))
     refine fw.sq.ix_ 53 dR bR (le_ 56 0 (.agg #[i_ ((gt V O).1), .int .u64 ((gt V O).2.1), i_ ((gt V O).2.2)]) fw.sq dR bR ?_)
     refine rk_ aj.wf [i_ 0, .int .u64 0, i_ 0] fun bd kN ag aB eX => ?_
     obtain ⟨kO, iH, af, eY⟩ := ra_ 56 0 ag.wf eX [i_ ((gt V O).1), .int .u64 ((gt V O).2.1), i_ ((gt V O).2.2)] [i_ ((gt V O).1), .int .u64 ((gt V O).2.1), i_ ((gt V O).2.2)]
     refine ek_ iH (Za (hG _ _ (sq_ fun hH => g_' ?_)))
     have eI := (t_ (t_ (t_ (t_ (t_ (t_ (t_ av.n aq.n) ar.n) ak.n) ap.n) ax.n) ay.n) ae.n)
     have fV := (bq.djn (b5.ltF.le eI))
     have fW := (bp.djn (b5.ltF.le eI))
     have ib := (t_ (t_ (t_ (t_ (t_ (t_ (t_ (t_ (t_ (t_ (t_ (t_ av.n aq.n) ar.n) ak.n) ap.n) ax.n) ay.n) ae.n) al.n) az.n) am.n) ab.n) aj.n)
     have fX := (aB.djn (b5.ltF.le ib))
     have j8 := ((((fo.frS ab dn_).frS aj (Dj.app fW fV)).ext ag).frS af fX)
     refine lr_ 33 0 (.agg #[.slice a1 bb a6, .slice a76 bc a7]) j8 (q_ (pt_ a2 0) ?_)
     have fY := (a_.djn bG.lt)
     have dK := (a_.djn bF.lt)
     have ic := (t_ (t_ am.n ab.n) aj.n)
     have fZ := (aB.djn (cB.ltF.le ic))
     have fx := ((((i6.frS ab dn_).frS aj (Dj.app (Dj.symm dK) (Dj.symm fY))).ext ag).frS af fZ)
     refine lr_ 3 0 (i_ ((gt U e).1)) fx (q_ (pt_ bd 0) (lr_ 3 0 (i_ ((gt V O).1)) eY ?_))
     have cA := (t_ (t_ (t_ (t_ (t_ (t_ (t_ (t_ aG.n av.n) aq.n) ar.n) ak.n) ap.n) ax.n) ay.n) ae.n)
     have f0 := (bq.djn (br.lt.le cA))
     have f1 := (bp.djn (br.lt.le cA))
     have eJ := (t_ (t_ (t_ (t_ (t_ (t_ (t_ (t_ (t_ (t_ (t_ (t_ (t_ aG.n av.n) aq.n) ar.n) ak.n) ap.n) ax.n) ay.n) ae.n) al.n) az.n) am.n) ab.n) aj.n)
     have f2 := (aB.djn (br.lt.le eJ))
     have j9 := ((((fu.fr ab dn_).fr aj (Dj.app f1 f0)).ext ag).fr af f2)
     have f3 := (bq.djn (bs.lt.le cA))
     have f4 := (bp.djn (bs.lt.le cA))
     have f5 := (aB.djn (bs.lt.le eJ))
     have j_ := ((((fv.fr ab dn_).fr aj (Dj.app f4 f3)).ext ag).fr af f5)
     obtain ⟨aC, g6, jc⟩ := bs_ ja
     refine ck_ (Zfe af.wf j9.sq j_ g6) ?_
     rintro _ fD ⟨rfl, ah⟩
     refine q_ (.tuple #[.int .u64 aC.1, .bool aC.2]) (q_ (.int .u64 aC.1) (q_ (.bool aC.2) (q_ (.int .u64 aC.1) (q_ (.bool aC.2) (Za (hH _ _ (sq_ fun hI => g_' (q_ (pt_ a2 1) ?_))))))))
     have cC := (fx.frS ah dn_)
     refine lr_ 27 1 (.int .u64 ((gt U e).2.1)) cC (q_ (pt_ bd 1) ?_)
     have cD := (eY.frS ah dn_)
     refine lr_ 27 1 (.int .u64 ((gt V O).2.1)) cD ?_
     obtain ⟨gw, jd⟩ := Zb jc
     refine s_w ((((gt U e).2.1) + ((gt V O).2.1))) (k := .u64) (x := (((gt U e).2.1) + ((gt V O).2.1))) (by kernel_rfl) (Zdr gw) ?_
     refine q_ (.int .u64 (((gt U e).2.1) + ((gt V O).2.1))) (Za (hI _ _ (sq_ fun hJ => sq_ fun hK => ?_)))
     obtain ⟨eP, ed, eZ⟩ := bs_ jd
     refine ZC (fun α dw => Has α [(2, i_ ao), (10, pt_ bj 0), (12, .slice aI aO aK), (14, .slice aJ aP aL), (16, .slice aD aH aE), (18, .slice aT aZ aU), (19, .slice bz bI bC), (20, .slice bh bt bk), (22, pt_ a2 0), (24, pt_ bd 0), (25, .int .u64 aC.1), (26, .bool aC.2), (27, .int .u64 (((gt U e).2.1) + ((gt V O).2.1))), (86, .slice bx bH bB), (87, i_ (U.length : Int)), (88, i_ e), (94, .slice cf cz cg), (95, i_ (V.length : Int)), (96, i_ O), (122, .bool eP)] /\ fD = dw) (fun _ ek => ?_) (fun α dw hM => ?_)
     ·refine g_' (q_ (pt_ a2 0) (lr_ 3 0 (i_ ((gt U e).1)) cC (q_ (pt_ bd 0) (lr_ 3 0 (i_ ((gt V O).1)) cD ?_))))
      refine sb_ (((gt U e).1) = ((gt V O).1)) (fun cT => ?_) fun cT => ?_
      ·have je := Ze cT ed
       refine q_ (.bool true) (n_' (n_' (q_ (.bool true) (Za ?_))))
       obtain rfl := oi_ je
       exact ek _ _ ⟨ha_, rfl⟩
      have jf := Zi cT ed
      refine q_ (.bool false) (q_ (.int .u64 (((gt U e).2.1) + ((gt V O).2.1))) (q_ (.bool (decide ((((gt U e).2.1) + ((gt V O).2.1)) > 140737488355328))) (q_ (.bool (decide ((((gt U e).2.1) + ((gt V O).2.1)) > 140737488355328))) (Za ?_))))
      obtain rfl := oi_ jf
      exact ek _ _ ⟨ha_, rfl⟩
     obtain ⟨d1, rfl⟩ := hM
     obtain ⟨β, rfl⟩ := Zh d1
     clear d1
     refine hK _ _ ?_
     refine wb_ (eP) (fun cU => ?_) fun cU => ?_
     ·have jg := Ze cU eZ
      refine ZL (Zj (ZV ?_))
      refine c3 _ _ (g_' ?_)
      obtain ⟨gx, jh⟩ := Zb jg
      refine w_' ((O + 1)) (Zo (by have := gx; omega)) (q_ (i_ (O + 1)) (Za ?_))
      have ka := (((aM.ext ag).fr af (aB.djn aM.lt)).fr ah dn_)
      have kb := (((aN.ext ag).fr af (aB.djn aN.lt)).fr ah dn_)
      obtain rfl := oi_ jh
      exact c0 da _ _ lt_ ⟨arcs0, walks1, (O + 1), (.slice bz bI bC), a8, (.slice bh bt bk), bo, cu, ha_, (fs_ ab.wf (fs_ ab.wf ((fs_ ab.wf (fr_ ab.wf) aj ir_).extR ag) af (aB.fresh aj.n)) ah in_), ka, kb, (Inn.trans ir_ (Nat.le_refl _) be), (Inn.trans ir_ (Nat.le_refl _) bX), bD⟩
     have ji := ZK cU eZ
     refine Zf (hJ _ _ (sq_ fun hL => g_' (q_ (pt_ a2 0) (lr_ 3 0 (i_ ((gt U e).1)) cC (q_ (pt_ bd 0) (lr_ 3 0 (i_ ((gt V O).1)) cD (q_ (.int .u64 (((gt U e).2.1) + ((gt V O).2.1))) (q_ (.agg #[i_ ((gt U e).1), i_ ((gt V O).1), .int .u64 (((gt U e).2.1) + ((gt V O).2.1))]) ?_))))))))
     refine rk_ ah.wf [i_ 0, i_ 0, .int .u64 0] fun dF kP aA aY jj => ?_
     obtain ⟨cH, iI, an, e0⟩ := ra_ 60 0 aA.wf jj [i_ ((gt U e).1), i_ ((gt V O).1), .int .u64 (((gt U e).2.1) + ((gt V O).2.1))] [i_ ((gt U e).1), i_ ((gt V O).1), .int .u64 (((gt U e).2.1) + ((gt V O).2.1))]
     refine ek_ iI (Za (hL _ _ (sq_ fun hN => sq_ fun hO => ?_)))
     obtain ⟨eQ, ee, jk⟩ := bs_ ji
     refine ZC (fun α dx => Has α [(2, i_ ao), (10, pt_ bj 0), (12, .slice aI aO aK), (14, .slice aJ aP aL), (16, .slice aD aH aE), (18, .slice aT aZ aU), (19, .slice bz bI bC), (20, .slice bh bt bk), (22, pt_ a2 0), (24, pt_ bd 0), (27, .int .u64 (((gt U e).2.1) + ((gt V O).2.1))), (28, pt_ dF 0), (86, .slice bx bH bB), (87, i_ (U.length : Int)), (88, i_ e), (94, .slice cf cz cg), (95, i_ (V.length : Int)), (96, i_ O), (135, .bool eQ)] /\ cH = dx) (fun _ el => ?_) (fun α dx hM => ?_)
     ·refine g_' (q_ (.bool aC.2) (q_ (.bool (!aC.2)) (q_ (.bool (!aC.2)) ?_)))
      by_cases co : (!aC.2) = true
      ·have jl := Ze co ee
       rw [co]
       refine n_' (n_' (n_' (q_ (.bool true) (Za ?_))))
       obtain rfl := oi_ jl
       exact el _ _ ⟨ha_, rfl⟩
      have jm := Zi co ee
      rw [nb co]
      refine q_ (.int .u64 aC.1) (q_ (.int .u64 (((gt U e).2.1) + ((gt V O).2.1))) (q_ (.bool (decide (aC.1 > (((gt U e).2.1) + ((gt V O).2.1))))) (q_ (.bool (decide (aC.1 > (((gt U e).2.1) + ((gt V O).2.1))))) (Za ?_))))
      obtain rfl := oi_ jm
      exact el _ _ ⟨ha_, rfl⟩
     obtain ⟨d2, rfl⟩ := hM
     obtain ⟨β, rfl⟩ := Zh d2
     clear d2
     refine hO _ _ ?_
     obtain ⟨de, ef, jn⟩ := bs_ jk
     refine ZC (fun α bL => ∃ (dq : Value) (bP : Fp), Has α [(2, i_ ao), (10, pt_ bj 0), (12, .slice aI aO aK), (14, .slice aJ aP aL), (16, .slice aD aH aE), (18, .slice aT aZ aU), (19, dq), (20, .slice bh bt bk), (22, pt_ a2 0), (24, pt_ bd 0), (27, .int .u64 (((gt U e).2.1) + ((gt V O).2.1))), (28, pt_ dF 0), (86, .slice bx bH bB), (87, i_ (U.length : Int)), (88, i_ e), (94, .slice cf cz cg), (95, i_ (V.length : Int)), (96, i_ O)] /\ FrS a8 cH bL /\ Ow Zu 3 bL dq de bP /\ Inn a8 cH bP) (fun _ em => ?_) (fun α bL hM => ?_)
     ·refine wb_ (eQ) (fun cV => ?_) fun cV => ?_
      ·have jo := Ze cV ef
       refine g_' (q_ (.slice bz bI bC) (lr_ 60 0 (.agg #[i_ ((gt U e).1), i_ ((gt V O).1), .int .u64 (((gt U e).2.1) + ((gt V O).2.1))]) e0 ?_))
       refine Zb9 (enc := Zu) (sz := 3) an.wf [((gt U e).1, (gt V O).1, (((gt U e).2.1) + ((gt V O).2.1)))] 1 (by decide) (fun _ _ => rfl) (fun _ _ => rfl) rfl (by kernel_rfl) fun mD lQ kR ch lY d7 => ?_
       obtain ⟨la, mm, lm, rfl⟩ := d7.form
       have id := (t_ (t_ ag.n af.n) ah.n)
       have f7 := (aY.djn (aM.lt.le id))
       have kc := ((((((aM.ext ag).fr af (aB.djn aM.lt)).fr ah dn_).ext aA).fr an f7).ext ch)
       obtain ⟨gy, jp⟩ := Zb jo
       obtain ⟨mE, kS, gr, iJ, gp, d8, gJ⟩ := Ow.append (P := Try.prog) 24 ch.wf kc d7.sq (fun _ _ => rfl) (at_ := #[52, 52]) rfl rfl (by kernel_rfl) (by kernel_rfl) (by decide) (by have := gy; first | omega | (simp only [List.length_cons, List.length_nil] at this ⊢; omega) | (simp at this ⊢; omega))
       obtain ⟨cI, db, cK, rfl⟩ := d8.form
       refine ZaY (.slice cI db cK) (by kernel_rfl) (iJ) ?_
       refine q_ (.slice cI db cK) (Za ?_)
       obtain rfl := oi_ jp
       exact em _ _ ⟨(.slice cI db cK), gr, ha_, (fs_ an.wf ((fr_ an.wf).extR ch) gp ir_), d8, (Inn.trans ir_ ch.n gJ)⟩
      have jq := ZK cV ef
      refine Zf ?_
      have ie := (t_ (t_ ag.n af.n) ah.n)
      have f8 := (aY.djn (aM.lt.le ie))
      have kd := (((((aM.ext ag).fr af (aB.djn aM.lt)).fr ah dn_).ext aA).fr an f8)
      obtain rfl := oi_ jq
      exact em _ _ ⟨(.slice bz bI bC), a8, ha_, (fr_ an.wf), kd, ir_⟩
     obtain ⟨dq, bP, d3, aV, cy, cw⟩ := hM
     obtain ⟨β, rfl⟩ := Zh d3
     clear d3
     obtain ⟨dE, eK, dI, rfl⟩ := cy.form
     refine hN _ _ (sq_ fun hP => ?_)
     refine ZW [0, 1, 2, 3, 4, 5, 6, 7, 8, 9, 10] (by kernel_rfl) ?_
     refine e_' (.slice aT aZ aU) (e_' (pt_ a2 0) ?_)
     have ig := (t_ (t_ (t_ (t_ (t_ am.n ab.n) aj.n) ag.n) af.n) ah.n)
     have f9 := (aY.djn (cB.ltF.le ig))
     have ih := (t_ am.n ab.n)
     have f_ := (be.dj (Dj.symm dK) (cB.ltF.le ih))
     have ke := (((cC.ext aA).frS an f9).frS aV f_)
     refine mr_ 3 0 (i_ ((gt U e).1)) ke ?_
     obtain ⟨cm, jr⟩ := Zb jn
     have ii := (t_ ae.n al.n)
     have ga := (a_.djn (bf.lt.le ii))
     have gb := (bq.djn (bf.lt.le ae.n))
     have dL := (bp.djn (bf.lt.le ae.n))
     have ij := (t_ (t_ (t_ (t_ (t_ ae.n al.n) az.n) am.n) ab.n) aj.n)
     have gc := (aB.djn (bf.lt.le ij))
     have ik := (t_ (t_ (t_ (t_ (t_ (t_ (t_ (t_ ae.n al.n) az.n) am.n) ab.n) aj.n) ag.n) af.n) ah.n)
     have gd := (aY.djn (bf.lt.le ik))
     have il := (t_ (t_ (t_ (t_ ae.n al.n) az.n) am.n) ab.n)
     have ge := (be.dj dL (bf.lt.le il))
     have dr := ((((((((((((bf.fr ae dn_).fr al dn_).ext az).fr am ga).fr ab dn_).fr aj (Dj.app dL gb)).ext ag).fr af gc).fr ah dn_).ext aA).fr an gd).fr aV ge)
     refine dr.mx_ 49 cm.1 cm.2 ?_
     obtain ⟨ls, lR, gN, gU, gO, gT⟩ := dr.kid cm.1 cm.2
     obtain ⟨jW, rfl, gS⟩ := Za6 gN
     have c6 : KdS (Zal .u64) 1 bL jW (gt bg ((gt U e).1)) gq (.slice aT aZ aU) 1 ((gt U e).1).toNat 0 := ⟨gS.sq.up gU dr.lt, gT 0 _ rfl (by decide)⟩
     obtain ⟨fE, im, fJ, rfl⟩ := c6.sq.form
     refine m_' (.slice fE im fJ) (aL_ 36 (elp (.slice aT aZ aU) 1 ((gt U e).1).toNat 0) bL) (gO _ _ _ _ (by kernel_rfl)) (e_' (pt_ bd 0) ?_)
     have io := (t_ af.n ah.n)
     have gf := (aY.djn (eX.ltF.le io))
     have gg := (aB.djn aM.lt)
     have kf := (((cD.ext aA).frS an gf).frS aV (Dj.symm gg))
     refine mr_ 3 0 (i_ ((gt V O).1)) kf ?_
     obtain ⟨cn, e1⟩ := Zb jr
     refine c6.sq.mx_ 36 cn.1 cn.2 (me_ 27 0 (.int .u64 (gt (gt bg ((gt U e).1)) ((gt V O).1))) c6.sq cn.1 cn.2 (e_' (.int .u64 (((gt U e).2.1) + ((gt V O).2.1))) (e_' (.bool (decide ((gt (gt bg ((gt U e).1)) ((gt V O).1)) > (((gt U e).2.1) + ((gt V O).2.1))))) ?_)))
     refine ZR ?_
     refine hP _ _ ?_
     refine wc_ ((gt (gt bg ((gt U e).1)) ((gt V O).1)) > (((gt U e).2.1) + ((gt V O).2.1))) (fun cW => ?_) fun cW => ?_
     ·have js := Ze cW e1
      refine g_' (q_ (.slice bh bt bk) ?_)
      have eL := (t_ (t_ ag.n af.n) ah.n)
      have gh := (aY.djn (aM.lt.le eL))
      have kg := (e0.frS aV (Dj.symm gh))
      refine lr_ 60 0 (.agg #[i_ ((gt U e).1), i_ ((gt V O).1), .int .u64 (((gt U e).2.1) + ((gt V O).2.1))]) kg ?_
      refine Zb9 (enc := Zu) (sz := 3) aV.wf [((gt U e).1, (gt V O).1, (((gt U e).2.1) + ((gt V O).2.1)))] 1 (by decide) (fun _ _ => rfl) (fun _ _ => rfl) rfl (by kernel_rfl) fun mF lS kT bE lZ d9 => ?_
      obtain ⟨lb, mn, ln, rfl⟩ := d9.form
      have gi := (aY.djn (aN.lt.le eL))
      have kh := (((((((aN.ext ag).fr af (aB.djn aN.lt)).fr ah dn_).ext aA).fr an gi).fr aV bD).ext bE)
      obtain ⟨gz, jt⟩ := Zb js
      obtain ⟨mG, kU, gs, iK, dO, d_, dV⟩ := Ow.append (P := Try.prog) 24 bE.wf kh d9.sq (fun _ _ => rfl) (at_ := #[52, 52]) rfl rfl (by kernel_rfl) (by kernel_rfl) (by decide) (by have := gz; first | omega | (simp only [List.length_cons, List.length_nil] at this ⊢; omega) | (simp at this ⊢; omega))
      obtain ⟨cJ, dc, cL, rfl⟩ := d_.form
      refine ZaY (.slice cJ dc cL) (by kernel_rfl) (iK) ?_
      refine q_ (.slice cJ dc cL) (Za (c3 _ _ (g_' ?_)))
      obtain ⟨gA, jv⟩ := Zb jt
      refine w_' ((O + 1)) (Zo (by have := gA; omega)) (q_ (i_ (O + 1)) (Za ?_))
      have ip := (t_ (t_ (t_ aj.n ag.n) af.n) ah.n)
      have iq := (t_ (t_ (t_ (t_ ag.n af.n) ah.n) aA.n) an.n)
      have dM := (cw.dj bD (aN.lt.le iq))
      have kj := ((cy.ext bE).fr dO (Dj.symm dM))
      have ir := (t_ (t_ (t_ (t_ (t_ aj.n ag.n) af.n) ah.n) aA.n) an.n)
      have it := (t_ (t_ (t_ (t_ (t_ (t_ (t_ aj.n ag.n) af.n) ah.n) aA.n) an.n) aV.n) bE.n)
      have gj := (dV.dj (Dj.symm dM) (cy.lt.le bE.n))
      obtain rfl := oi_ jv
      exact c0 da _ _ lt_ ⟨de, (walks1 ++ [((gt U e).1, (gt V O).1, (((gt U e).2.1) + ((gt V O).2.1)))]), (O + 1), (.slice dE eK dI), bP, (.slice cJ dc cL), gs, cu, ha_, (fs_ ab.wf ((fs_ ab.wf (fs_ ab.wf ((fs_ ab.wf (fs_ ab.wf ((fs_ ab.wf (fr_ ab.wf) aj ir_).extR ag) af (aB.fresh aj.n)) ah in_).extR aA) an (aY.fresh ip)) aV (Inn.trans Inn.left (Nat.le_refl _) be)).extR bE) dO (Inn.trans (Inn.right ir_) (Nat.le_refl _) bX)), kj, d_, (Inn.trans (Inn.trans ir_ (Nat.le_refl _) be) ir cw), (Inn.trans (Inn.trans ir_ (Nat.le_refl _) bX) it dV), (Dj.symm gj)⟩
     have jw := Zi cW e1
     refine Zf (c3 _ _ (g_' ?_))
     obtain ⟨gB, jx⟩ := Zb jw
     refine w_' ((O + 1)) (Zo (by have := gB; omega)) (q_ (i_ (O + 1)) (Za ?_))
     have iu := (t_ (t_ (t_ aj.n ag.n) af.n) ah.n)
     have iv := (t_ (t_ ag.n af.n) ah.n)
     have gk := (aY.djn (aN.lt.le iv))
     have kl := ((((((aN.ext ag).fr af (aB.djn aN.lt)).fr ah dn_).ext aA).fr an gk).fr aV bD)
     have iw := (t_ (t_ (t_ (t_ (t_ aj.n ag.n) af.n) ah.n) aA.n) an.n)
     have ix := (t_ (t_ (t_ (t_ ag.n af.n) ah.n) aA.n) an.n)
     have gl := (cw.dj bD (aN.lt.le ix))
     obtain rfl := oi_ jx
     exact c0 da _ _ lt_ ⟨de, walks1, (O + 1), (.slice dE eK dI), bP, (.slice bh bt bk), bo, cu, ha_, (fs_ ab.wf (fs_ ab.wf ((fs_ ab.wf (fs_ ab.wf ((fs_ ab.wf (fr_ ab.wf) aj ir_).extR ag) af (aB.fresh aj.n)) ah in_).extR aA) an (aY.fresh iu)) aV (Inn.trans Inn.left (Nat.le_refl _) be)), cy, kl, (Inn.trans (Inn.trans ir_ (Nat.le_refl _) be) iw cw), (Inn.trans ir_ (Nat.le_refl _) bX), gl⟩
    have jy := Zi bR bV
    refine ZL (Zj (Zj (ZV ?_)))
    obtain rfl := oi_ jy
    obtain rfl := ZG cu
    exact hB _ _ ⟨(.slice bz bI bC), a8, (.slice bh bt bk), bo, ha_, (fs_ ab.wf (fr_ ab.wf) aj ir_), aM, aN, (Inn.trans ir_ (Nat.le_refl _) be), (Inn.trans ir_ (Nat.le_refl _) bX), bD⟩
   obtain ⟨dk, bN, dm, bO, dZ, gn, ex, ey, hc, hd, fS⟩ := hM
   obtain ⟨β, rfl⟩ := Zh dZ
   clear dZ
   obtain ⟨fF, iy, fK, rfl⟩ := ex.form
   obtain ⟨fG, iz, fL, rfl⟩ := ey.form
   refine hy _ _ (g_' ?_)
   obtain ⟨gC, jz⟩ := Zb i8
   refine w_' ((e + 1)) (Zo (by have := gC; omega)) (q_ (i_ (e + 1)) (Za ?_))
   have eM := (t_ (t_ (t_ al.n az.n) am.n) ab.n)
   obtain rfl := oi_ jz
   exact hv h9 _ _ lt_ ⟨bZ.1, bZ.2, (e + 1), (.slice fF iy fK), bN, (.slice fG iz fL), bO, ea, ha_, (fs_ ae.wf (fs_ ae.wf (fs_ ae.wf ((fs_ ae.wf (fr_ ae.wf) al in_).extR az) am (a_.fresh al.n)) ab in_) gn (Inn.app (bp.fresh (Nat.le_refl _)) (bq.fresh (Nat.le_refl _)))), ex, ey, (Inn.trans (bp.fresh (Nat.le_refl _)) eM hc), (Inn.trans (bq.fresh (Nat.le_refl _)) eM hd), fS⟩
  have jA := Zi bQ bU
  refine ZL (Zj (Zj (ZV ?_)))
  obtain rfl := oi_ jA
  obtain rfl := ZG ea
  exact hu _ _ ⟨(.slice dC eD dG), aW, (.slice dD eE dH), aX, ha_, (fs_ ae.wf (fr_ ae.wf) al in_), bF, bG, (bp.fresh (Nat.le_refl _)), (bq.fresh (Nat.le_refl _)), dJ⟩
 obtain ⟨df, cj, dg, ck, dX, aQ, ew, bY, ma, mb, ly⟩ := hM
 obtain ⟨β, rfl⟩ := Zh dX
 clear dX
 obtain ⟨fH, iA, fM, rfl⟩ := ew.form
 obtain ⟨bi, bu, bl, rfl⟩ := bY.form
 refine hr _ _ (sq_ fun hQ => sq_ fun hR => ?_)
 obtain ⟨eR, gX, e2⟩ := bs_ i2
 refine ZC (fun α dy => Has α [(16, .slice aD aH aE), (20, .slice bi bu bl), (168, .bool eR)] /\ FrS [] bK dy) (fun _ eo => ?_) (fun α dy hM => ?_)
 ·refine g_' (q_ (.slice aI aO aK) ?_)
  have km := ((((((eq.fr ak dn_).fr ap dn_).fr ax dn_).fr ay dn_).fr ae dn_).fr aQ dn_)
  obtain ⟨mP, g7, jB⟩ := bs_ gX
  refine ck_ (ZdC aQ.wf km.sq g7) ?_
  rintro mH kV ⟨_, lT, rfl, bn, eA, mg⟩
  obtain ⟨lc, mo, lp, rfl⟩ := eA.form
  refine q_ (.slice fH iA fM) ?_
  have kn := (ew.fr bn dn_)
  obtain ⟨kz, g8, e3⟩ := bs_ jB
  refine ck_ (Zd5 bn.wf eA.sq kn.sq g8) ?_
  rintro _ _ ⟨rfl, rfl⟩
  by_cases cp : kz = true
  ·have jC := Ze cp e3
   rw [cp]
   refine q_ (.bool false) (q_ (.bool false) (q_ (.slice aJ aP aL) ?_))
   have ko := ((((((er.fr ap dn_).fr ax dn_).fr ay dn_).fr ae dn_).fr aQ dn_).fr bn dn_)
   obtain ⟨mQ, g9, jD⟩ := bs_ jC
   refine ck_ (ZdC bn.wf ko.sq g9) ?_
   rintro mI kW ⟨_, lU, rfl, cN, eB, mh⟩
   obtain ⟨lf, mp, lq, rfl⟩ := eB.form
   refine q_ (.slice bi bu bl) ?_
   have kp := ((bY.fr bn dn_).fr cN dn_)
   obtain ⟨fB, g_, jE⟩ := bs_ jD
   refine ck_ (Zd5 cN.wf eB.sq kp.sq g_) ?_
   rintro _ _ ⟨rfl, rfl⟩
   refine q_ (.bool (!fB)) (q_ (.bool (!fB)) (Za ?_))
   obtain rfl := oi_ jE
   exact eo _ _ ⟨ha_, (fs_ aQ.wf (fs_ aQ.wf (fr_ aQ.wf) bn in_) cN in_)⟩
  have jF := Zi cp e3
  rw [nb cp]
  refine q_ (.bool true) (q_ (.bool true) (n_' (n_' (n_' (n_' (n_' (q_ (.bool true) (Za ?_))))))))
  obtain rfl := oi_ jF
  exact eo _ _ ⟨ha_, (fs_ aQ.wf (fr_ aQ.wf) bn in_)⟩
 obtain ⟨d4, bm⟩ := hM
 obtain ⟨β, rfl⟩ := Zh d4
 clear d4
 refine hR _ _ ?_
 refine wb_ (eR) (fun cX => ?_) fun cX => ?_
 ·have jG := Ze cX e2
  refine sq_ fun hS => g_' (q_ (.bool false) (Za (hS _ _ ?_)))
  refine Zg (Zn ?_)
  refine br_ [.bool false] ?_
  have iB := (t_ (t_ aF.n aw.n) aR.n)
  obtain rfl := oi_ jG
  exact ⟨rfl, (fs_ aa (fs_ aa (fs_ aa (fs_ aa (fs_ aa (fs_ aa (fs_ aa (fs_ aa (fs_ aa (fs_ aa ((fs_ aa (((f0_ aa).extR aF).extR aw) aR in_).extR aG) av (ba.fresh iB)) aq in_) ar in_) ak in_) ap in_) ax in_) ay in_) ae in_) aQ in_) bm in_)⟩
 have jH := ZK cX e2
 refine Zf (hQ _ _ (sq_ fun hT => g_' (q_ (i_ 0) (Za (hT _ _ (sq_ fun hU => sq_ fun hV => g_' (q_ (.slice aD aH aE) ?_)))))))
 have kq := (((((es.fr ax dn_).fr ay dn_).fr ae dn_).fr aQ dn_).fr bm dn_)
 obtain ⟨ac, ha, jI⟩ := bs_ jH
 refine ck_ (ZdC bm.wf kq.sq ha) ?_
 rintro mJ dz ⟨_, lV, rfl, au, c_, mi⟩
 obtain ⟨fI, iC, fN, rfl⟩ := c_.form
 refine c_.sq.ln_ 52 (q_ (i_ 0) (Za (hV _ _ ?_)))
 obtain ⟨bJ, gY, jJ⟩ := bs_ jI
 refine ZC (fun α dA => Has α [(20, .slice bi bu bl), (29, i_ bJ)] /\ FrS [] dz dA) (fun _ hW => ?_) (fun α dA hM => ?_)
 ·refine Zk ?_
  obtain ⟨eN, gR⟩ := Zv.1 gY
  refine ZJ (fun n α dB => ∃ (Y : Int), ∃ (ad : Int), ZN (fun zz_ => Z4 ai ac zz_.1 zz_.2) n (Y, ad) = some bJ /\ Has α [(20, .slice bi bu bl), (29, i_ ad), (170, .slice fI iC fN), (171, i_ (ac.length : Int)), (172, i_ Y)] /\ FrS [] dz dB) eN ⟨0, 0, gR, ha_, (fr_ au.wf)⟩ ?_
  rintro eN α dB ⟨Y, ad, gM, d6, aS⟩ k8 c4
  obtain ⟨dd, kC, rfl, bW, cv⟩ := Zx gM
  obtain ⟨β, rfl⟩ := Zh d6
  clear d6
  replace bW : Z4 ai ac Y ad = some kC := bW
  unfold Z4 at bW
  refine sq_ fun hX => g_' (q_ (.bool (decide (Y < (ac.length : Int)))) (Za (hX _ _ (sq_ fun hY => ?_))))
  refine wc_ (Y < (ac.length : Int)) (fun bS => ?_) fun bS => ?_
  ·have jK := Ze bS bW
   refine Zf (hY _ _ (sq_ fun c5 => Zk (sq_ fun hZ => g_' ?_)))
   obtain ⟨dS, e4⟩ := Zb jK
   have fy := (c_.fr aS dn_)
   refine fy.sq.ix_ 52 dS bS (le_ 60 0 (.agg #[i_ ((gt ac Y).1), i_ ((gt ac Y).2.1), .int .u64 ((gt ac Y).2.2)]) fy.sq dS bS ?_)
   refine rk_ aS.wf [i_ 0, i_ 0, .int .u64 0] fun lh kX bM cq jL => ?_
   obtain ⟨kY, iL, ci, jM⟩ := ra_ 60 0 bM.wf jL [i_ ((gt ac Y).1), i_ ((gt ac Y).2.1), .int .u64 ((gt ac Y).2.2)] [i_ ((gt ac Y).1), i_ ((gt ac Y).2.1), .int .u64 ((gt ac Y).2.2)]
   refine ek_ iL (Za (hZ _ _ (sq_ fun ep => ?_)))
   refine ZW [0, 1, 2, 3, 4, 5, 6, 7, 8, 9, 10, 11] (by kernel_rfl) ?_
   refine e_' (i_ ad) (e_' (.slice bi bu bl) ?_)
   have iD := (t_ (t_ bm.n au.n) aS.n)
   have gm := (cq.djn (bY.lt.le iD))
   have dt := (((((bY.fr bm dn_).fr au dn_).fr aS dn_).ext bM).fr ci gm)
   refine dt.sq.mn_ 52 ?_
   refine db_ (ad < (ai.2.length : Int)) (fun bT => ?_) fun bT => ?_
   ·have jN := Ze bT e4
    refine e_' (.bool true) (e_' (.slice bi bu bl) (e_' (i_ ad) ?_))
    obtain ⟨dT, e5⟩ := Zb jN
    refine dt.sq.mx_ 52 dT bT (me_ 60 0 (.agg #[i_ ((gt ai.2 ad).1), i_ ((gt ai.2 ad).2.1), .int .u64 ((gt ai.2 ad).2.2)]) dt.sq dT bT (mr_ 60 0 (.agg #[i_ ((gt ac Y).1), i_ ((gt ac Y).2.1), .int .u64 ((gt ac Y).2.2)]) jM (m_' (.bool (decide (((gt ai.2 ad).1) = ((gt ac Y).1) /\ ((gt ai.2 ad).2.1) = ((gt ac Y).2.1) /\ ((gt ai.2 ad).2.2) = ((gt ac Y).2.2)))) (ZcD Try.prog .eql 60 (.tmp 184) (.tmp 185) (.agg #[i_ ((gt ai.2 ad).1), i_ ((gt ai.2 ad).2.1), .int .u64 ((gt ai.2 ad).2.2)]) (.agg #[i_ ((gt ac Y).1), i_ ((gt ac Y).2.1), .int .u64 ((gt ac Y).2.2)])) (Zky _ _ ((gt ai.2 ad).1) ((gt ai.2 ad).2.1) ((gt ai.2 ad).2.2) ((gt ac Y).1) ((gt ac Y).2.1) ((gt ac Y).2.2)) (e_' (.bool (decide (((gt ai.2 ad).1) = ((gt ac Y).1) /\ ((gt ai.2 ad).2.1) = ((gt ac Y).2.1) /\ ((gt ai.2 ad).2.2) = ((gt ac Y).2.2)))) ?_))))
    refine ZR ?_
    refine ep _ _ ?_
    refine wc_ (((gt ai.2 ad).1) = ((gt ac Y).1) /\ ((gt ai.2 ad).2.1) = ((gt ac Y).2.1) /\ ((gt ai.2 ad).2.2) = ((gt ac Y).2.2)) (fun cY => ?_) fun cY => ?_
    ·have jO := Ze cY e5
     refine g_' (q_ (i_ ad) ?_)
     obtain ⟨gD, jP⟩ := Zb jO
     refine w_' ((ad + 1)) (Zo (by have := gD; omega)) (q_ (i_ (ad + 1)) (Za (c5 _ _ (g_' ?_))))
     obtain ⟨gE, jQ⟩ := Zb jP
     refine w_' ((Y + 1)) (Zo (by have := gE; omega)) (q_ (i_ (Y + 1)) (Za ?_))
     obtain rfl := oi_ jQ
     exact c4 dd _ _ lt_ ⟨(Y + 1), (ad + 1), cv, ha_, (fs_ au.wf ((fs_ au.wf (fr_ au.wf) aS in_).extR bM) ci (cq.fresh aS.n))⟩
    have jR := Zi cY e5
    refine Zf (c5 _ _ (g_' ?_))
    obtain ⟨gF, jS⟩ := Zb jR
    refine w_' ((Y + 1)) (Zo (by have := gF; omega)) (q_ (i_ (Y + 1)) (Za ?_))
    obtain rfl := oi_ jS
    exact c4 dd _ _ lt_ ⟨(Y + 1), ad, cv, ha_, (fs_ au.wf ((fs_ au.wf (fr_ au.wf) aS in_).extR bM) ci (cq.fresh aS.n))⟩
   have jT := Zi bT e4
   refine e_' (.bool false) (j_' (j_' (j_' (j_' (j_' (j_' (e_' (.bool false) ?_)))))))
   refine ZR ?_
   refine ep _ _ ?_
   refine wb_ false (fun h => by cases h) fun _ => ?_
   refine Zf (c5 _ _ (g_' ?_))
   obtain ⟨gG, jU⟩ := Zb jT
   refine w_' ((Y + 1)) (Zo (by have := gG; omega)) (q_ (i_ (Y + 1)) (Za ?_))
   obtain rfl := oi_ jU
   exact c4 dd _ _ lt_ ⟨(Y + 1), ad, cv, ha_, (fs_ au.wf ((fs_ au.wf (fr_ au.wf) aS in_).extR bM) ci (cq.fresh aS.n))⟩
  have jV := Zi bS bW
  refine ZL (Zj (Zj (ZV ?_)))
  obtain rfl := oi_ jV
  obtain rfl := ZG cv
  exact hW _ _ ⟨ha_, (fs_ au.wf (fr_ au.wf) aS in_)⟩
 obtain ⟨d5, dP⟩ := hM
 obtain ⟨β, rfl⟩ := Zh d5
 clear d5
 refine hU _ _ (sq_ fun h1 => g_' (q_ (i_ bJ) (q_ (.slice bi bu bl) ?_)))
 have kr := (((bY.fr bm dn_).fr au dn_).fr dP dn_)
 refine kr.sq.ln_ 52 (q_ (.bool (decide (bJ = (ai.2.length : Int)))) (q_ (.bool (decide (bJ = (ai.2.length : Int)))) (Za (h1 _ _ ?_))))
 refine Zg ?_
 refine br_ [.bool (decide (bJ = (ai.2.length : Int)))] ?_
 have iE := (t_ (t_ aF.n aw.n) aR.n)
 obtain rfl := oi_ jJ
 exact ⟨rfl, (fs_ aa (fs_ aa (fs_ aa (fs_ aa (fs_ aa (fs_ aa (fs_ aa (fs_ aa (fs_ aa (fs_ aa (fs_ aa (fs_ aa ((fs_ aa (((f0_ aa).extR aF).extR aw) aR in_).extR aG) av (ba.fresh iE)) aq in_) ar in_) ak in_) ap in_) ax in_) ay in_) ae in_) aQ in_) bm in_) au in_) dP in_)⟩
end Go.Vd
