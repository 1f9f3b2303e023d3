/- The walks of the functions (printed by a program of ours). -/
import Derived.Test.YtnepbkkdhalbiaaGreatDoorPsn4
import Derived.Test.YtnepbkkdhalbiaaGreatDoorPsnISn
import Derived.Test.YtnepbkkdhalbiaaGreatDoorPsnVeN
import Derived.Test.YtnepbkkdhalbiaaGreatDoorPsnSoA
import Derived.Test.YtnepbkkdhalbiaaGreatDoorPsnVeV
set_option linter.unusedVariables false
set_option linter.unusedSimpArgs false
set_option linter.unusedSectionVars false
/-! (KSn8) -/

set_option maxRecDepth 100000
set_option maxHeartbeats 4000000
set_option linter.unusedVariables false
namespace Go.Vd
open Go.Proofs
attribute [local irreducible] Zp Zr aWp
theorem Zgm {H : AH} {ao : Value} {bK : Fp} {aC : Value} {bL : Fp} {aa : List (Bool)} {Arcs : List (Int × Int × Int × Int)} {skip : Int} {r : List (List (Int × Int))}
    (aW : WF H) (aL : Sq ZaC 1 H ao aa bK) (aM : Sq Zo 4 H aC Arcs bL) (bh : Zb8 aa Arcs skip = some r) :
    ACalls Tryz.prog 68 #[.agg #[ao, aC], i_ skip] H fun v H' => ∃ (bq : Value) (a2 : Fp), v = bq /\ FrS [] H H' /\ Nst (CR.sl ZaY 2) H' bq r a2 /\ Inn [] H a2 := by
 refine ab_ Tryz.func68 ?_
 unfold Zb8 at bh
 refine sq_ fun cu => g_' ?_
 refine ZaG aW [ao, aC] (Zs (aL.one1) (Zs (aM.one1) (Z1))) (by kernel_rfl) fun ax dd ad dt aU => ?_
 refine q_ (.slice none 0 0) (Za (cu _ _ (sq_ fun ci => g_' (q_ (pt_ ax 0) (lr_ 30 0 (ao) aU ?_)))))
 have bs := (aL.ext ad)
 refine bs.ln_ 30 ?_
 obtain ⟨a7, cN⟩ := Zb bh
 refine ZmF (t := 154) (m := 24) (l := (aa.length : Int)) (c := (aa.length : Int)) (enc := id) (sz := 1) ad.wf [.slice none 0 0] (by kernel_rfl) (by decide) a7.1 (Int.le_refl _) (by omega) (by have := a7; omega) (by kernel_rfl) fun dx aj al ab ap ag => ?_
 replace ag := Nst.zeros (C := (CR.sl ZaY 2)) (x0 := ([] : List (Int × Int))) ag (fun _ => ZmA (Ow.nil (by decide)))
 obtain ⟨U, Y, V, rfl⟩ := ag.form
 have ag : Nst (CR.sl ZaY 2) al (.slice U Y V) (List.replicate aa.length ([] : List (Int × Int))) aj := ag
 refine q_ (.slice U Y V) (Za (ci _ _ (sq_ fun ck => sq_ fun cm => g_' (q_ (.slice U Y V) (ag.ln_ 154 (q_ (i_ 0) (Za (cm _ _ ?_))))))))
 obtain ⟨bo, b8, cV⟩ := bs_ cN
 refine ZC (fun α aE => ∃ (az : Fp), Has α [(5, .slice U Y V)] /\ FrS aj al aE /\ Nst (CR.sl ZaY 2) aE (.slice U Y V) bo az /\ Inn aj al az) (fun _ cn => ?_) (fun α aE hM => ?_)
 ·refine Zm ?_
  obtain ⟨bm, bV⟩ := Zu.1 b8
  refine ZJ (fun n α aF => ∃ (O : Int), ∃ (rows3 : List (List (Int × Int))), ∃ (f46 : Fp), ZR (fun zz_ => Za9 aa Arcs skip zz_.1 zz_.2) n (O, rows3) = some bo /\ Has α [(1, i_ skip), (2, pt_ ax 0), (5, .slice U Y V), (14, i_ ((List.replicate aa.length ([] : List (Int × Int))).length : Int)), (15, i_ O)] /\ FrS aj al aF /\ Nst (CR.sl ZaY 2) aF (.slice U Y V) rows3 f46 /\ Inn aj al f46) bm ⟨0, (List.replicate aa.length ([] : List (Int × Int))), aj, bV, ha_, (fr_ ab.wf), ag, ir_⟩ ?_
  rintro bm α aF ⟨O, rows3, f46, bS, bb, af, aQ, aP⟩ df co
  obtain ⟨cE, da, rfl, ar, bg⟩ := Zy bS
  obtain ⟨β, rfl⟩ := Zk bb
  clear bb
  replace ar : Za9 aa Arcs skip O rows3 = some da := ar
  unfold Za9 at ar
  refine sq_ fun cp => g_' (q_ (.bool (decide (O < ((List.replicate aa.length ([] : List (Int × Int))).length : Int)))) (Za (cp _ _ (sq_ fun cq => ?_))))
  refine wc_ (O < ((List.replicate aa.length ([] : List (Int × Int))).length : Int)) (fun aK => ?_) fun aK => ?_
  ·have cW := Ze aK ar
   refine Zf (cq _ _ (sq_ fun cr => Zm (sq_ fun cv => g_' (q_ (i_ O) (q_ (i_ O) (Za (cv _ _ (sq_ fun cw => g_' ?_))))))))
   have c6 := ((aU.ext ab).frS af (ap.djn aU.ltF))
   refine lr_ 33 0 (.agg #[ao, aC]) c6 (q_ (i_ O) ?_)
   have bF := (ap.djn (aL.lt.le ad.n))
   have c7 := ((bs.ext ab).fr af bF)
   have bG := (ap.djn (aM.lt.le ad.n))
   have c8 := (((aM.ext ad).ext ab).fr af bG)
   obtain ⟨D, b_, cX⟩ := bs_ cW
   refine ck_ (Zc4 af.wf c7 c8 b_) ?_
   rintro dz aw ⟨_, dr, rfl, Z, aR, cc⟩
   obtain ⟨a77, cF, bC, rfl⟩ := aR.form
   refine aR.sq.ln_ 132 (q_ (i_ 0) (Za (cw _ _ ?_)))
   obtain ⟨aT, b9, cY⟩ := bs_ cX
   refine ZC (fun α aG => ∃ (aA : Fp), Has α [(1, i_ skip), (2, pt_ ax 0), (5, .slice U Y V), (14, i_ ((List.replicate aa.length ([] : List (Int × Int))).length : Int)), (15, i_ O)] /\ FrS f46 aw aG /\ Nst (CR.sl ZaY 2) aG (.slice U Y V) aT aA /\ Inn f46 aw aA) (fun _ cx => ?_) (fun α aG hM => ?_)
   ·refine Zm ?_
    obtain ⟨bn, bW⟩ := Zu.1 b9
    have c0 := (aQ.fr Z dn_)
    refine ZJ (fun n α aH => ∃ (e : Int), ∃ (rows1 : List (List (Int × Int))), ∃ (ak : Fp), ZR (fun zz_ => Zbd skip O D zz_.1 zz_.2) n (e, rows1) = some aT /\ Has α [(1, i_ skip), (2, pt_ ax 0), (5, .slice U Y V), (6, i_ O), (14, i_ ((List.replicate aa.length ([] : List (Int × Int))).length : Int)), (15, i_ O), (20, .slice a77 cF bC), (21, i_ (D.length : Int)), (22, i_ e)] /\ FrS f46 aw aH /\ Nst (CR.sl ZaY 2) aH (.slice U Y V) rows1 ak /\ Inn f46 aw ak) bn ⟨0, rows3, f46, bW, ha_, (fr_ Z.wf), c0, ir_⟩ ?_
    rintro bn α aH ⟨e, rows1, ak, bR, bd, ae, av, au⟩ de bi
    obtain ⟨bl, c_, rfl, aq, aO⟩ := Zy bR
    obtain ⟨β, rfl⟩ := Zk bd
    clear bd
    replace aq : Zbd skip O D e rows1 = some c_ := aq
    unfold Zbd at aq
    refine sq_ fun ce => g_' (q_ (.bool (decide (e < (D.length : Int)))) (Za (ce _ _ (sq_ fun cf => ?_))))
    refine wc_ (e < (D.length : Int)) (fun an => ?_) fun an => ?_
    ·have cJ := Ze an aq
     refine Zf (cf _ _ (sq_ fun bj => Zm (sq_ fun cg => g_' ?_)))
     obtain ⟨a6, bp⟩ := Zb cJ
     have bD := (cc.djn aQ.lt)
     have br := (aR.fr ae (Dj.symm bD))
     refine br.sq.ix_ 132 a6 an (le_ 134 0 (.agg #[i_ ((gt D e).1), .int .u64 ((gt D e).2.1), i_ ((gt D e).2.2)]) br.sq a6 an ?_)
     refine rk_ ae.wf [i_ 0, .int .u64 0, i_ 0] fun aI db ah aB cK => ?_
     obtain ⟨aX, cG, ai, aV⟩ := ra_ 134 0 ah.wf cK [i_ ((gt D e).1), .int .u64 ((gt D e).2.1), i_ ((gt D e).2.2)] [i_ ((gt D e).1), .int .u64 ((gt D e).2.1), i_ ((gt D e).2.2)]
     refine ek_ cG (Za (cg _ _ (sq_ fun ch => g_' (q_ (pt_ aI 0) (lr_ 3 0 (i_ ((gt D e).1)) aV (q_ (i_ skip) (q_ (.bool (!decide (((gt D e).1) = skip))) (Za (ch _ _ ?_)))))))))
     refine Zde (((gt D e).1) = skip) (by kernel_rfl) rfl (fun aJ => ?_) (fun aJ => ?_)
     ·have cL := Zi aJ bp
      refine ZQ [0, 1, 2, 3, 4, 5, 6, 7, 8, 9, 10, 11, 12, 13, 14] (by kernel_rfl) ?_
      refine e_' (.slice U Y V) (e_' (i_ O) (e_' (.slice U Y V) (e_' (i_ O) ?_)))
      obtain ⟨ac, cM⟩ := Zb cL
      have aD := ((av.ext ah).fr ai (aB.djn av.lt))
      refine aD.mx_ 154 ac.1 ac.2 ?_
      obtain ⟨di, dk, bT, b5, bU, bZ⟩ := aD.kid ac.1 ac.2
      obtain ⟨cZ, rfl, bX⟩ := ZhS bT
      have bk : KdS ZaY 2 aX cZ (gt rows1 O) ak (.slice U Y V) 1 O.toNat 0 := ⟨bX.sq.up b5 aD.lt, bZ 0 _ rfl (by decide)⟩
      obtain ⟨bx, cA, bA, rfl⟩ := bk.sq.form
      refine m_' (.slice bx cA bA) (aL_ 188 (elp (.slice U Y V) 1 O.toNat 0) aX) (bU _ _ _ _ (by kernel_rfl)) (e_' (pt_ aI 0) (mr_ 3 0 (i_ ((gt D e).1)) aV (e_' (pt_ aI 1) (mr_ 27 1 (.int .u64 ((gt D e).2.1)) aV (e_' (.agg #[i_ ((gt D e).1), .int .u64 ((gt D e).2.1)]) ?_)))))
      refine Zh1 (enc := ZaY) (sz := 2) ai.wf [((gt D e).1, (gt D e).2.1)] 1 (by decide) (fun _ _ => rfl) (fun _ _ => rfl) rfl (by kernel_rfl) fun dw dm aY am du be => ?_
      obtain ⟨dg, dv, dh, rfl⟩ := be.form
      have c3 := (aD.ext am)
      have c4 := (bk.ext am)
      obtain ⟨dn, dp, a_, bY, aZ, b6, b7⟩ := Nst.borrow Zkb c3 ac.1 ac.2 c4 rfl
      have bu := Inn.sub' (H := aY) b6
      have bv := Inn.sub' (H := aY) b7
      obtain ⟨bM, cO⟩ := Zb cM
      obtain ⟨dy, dc, dq, cH, ay, bf, a8⟩ := Ow.append (P := Tryz.prog) 16 am.wf bY be.sq (fun _ _ => rfl) (at_ := #[188, 188]) rfl rfl (by kernel_rfl) (by kernel_rfl) (by decide) (by have := bM; first | omega | (simp only [List.length_cons, List.length_nil] at this ⊢; omega) | (simp at this ⊢; omega))
      obtain ⟨bz, cB, bB, rfl⟩ := bf.form
      refine ZgT (.slice bz cB bB) (by kernel_rfl) (cH) (ZF) ?_
      have bt := (a_.fr ay (Dj.symm aZ))
      refine bt.mx_ 154 ac.1 ac.2 ?_
      have bE := (a8.dj (Dj.symm aZ) a_.lt)
      obtain ⟨bw, a1, cI, bH, aN, bQ⟩ := Hol.close (P := Tryz.prog) (t := 188) ay.wf bt bf (Dj.symm bE) ac.1 ac.2 (by kernel_rfl) (by kernel_rfl) (by kernel_rfl)
      have aN : Nst (CR.sl ZaY 2) bw (.slice U Y V) (rows1.set O.toNat ((gt rows1 O) ++ [((gt D e).1, (gt D e).2.1)])) a1 := aN
      have c9 := bQ.grow3 (Inn.trans ir_ (Nat.le_refl _) bu) (Inn.trans (Inn.trans ir_ (Nat.le_refl _) bv) (Nat.le_refl _) a8) ay.n
      refine fk_ cI (ZF) ?_
      refine ZI ?_
      refine bj _ _ (g_' ?_)
      obtain ⟨bN, cP⟩ := Zb cO
      refine w_' ((e + 1)) (Zn (by have := bN; omega)) (q_ (i_ (e + 1)) (Za ?_))
      have aS := (t_ (t_ (t_ ae.n ah.n) ai.n) am.n)
      obtain rfl := oi_ cP
      exact bi bl _ _ lt_ ⟨(e + 1), (rows1.set O.toNat ((gt rows1 O) ++ [((gt D e).1, (gt D e).2.1)])), a1, aO, ha_, (fs_ Z.wf (fs_ Z.wf ((fs_ Z.wf ((fs_ Z.wf (fr_ Z.wf) ae ir_).extR ah) ai (aB.fresh ae.n)).extR am) ay (Inn.trans (Inn.trans ir_ (Nat.le_refl _) au) aS bv)) bH (Inn.trans (Inn.trans ir_ (Nat.le_refl _) au) aS bu)), aN, (Inn.trans (Inn.trans ir_ (Nat.le_refl _) au) aS c9)⟩
     have cQ := Ze aJ bp
     refine Zf (bj _ _ (g_' ?_))
     obtain ⟨bO, cR⟩ := Zb cQ
     refine w_' ((e + 1)) (Zn (by have := bO; omega)) (q_ (i_ (e + 1)) (Za ?_))
     have c5 := ((av.ext ah).fr ai (aB.djn av.lt))
     obtain rfl := oi_ cR
     exact bi bl _ _ lt_ ⟨(e + 1), rows1, ak, aO, ha_, (fs_ Z.wf ((fs_ Z.wf (fr_ Z.wf) ae ir_).extR ah) ai (aB.fresh ae.n)), c5, (Inn.trans ir_ (Nat.le_refl _) au)⟩
    have cS := Zi an aq
    refine ZK (Zj (Zj (ZV ?_)))
    obtain rfl := oi_ cS
    obtain rfl := Zx aO
    exact cx _ _ ⟨ak, ha_, (fs_ Z.wf (fr_ Z.wf) ae ir_), av, (Inn.trans ir_ (Nat.le_refl _) au)⟩
   obtain ⟨aA, bc, bJ, cz, cd⟩ := hM
   obtain ⟨β, rfl⟩ := Zk bc
   clear bc
   refine cr _ _ (g_' ?_)
   obtain ⟨bP, cT⟩ := Zb cY
   refine w_' ((O + 1)) (Zn bP) (q_ (i_ (O + 1)) (Za ?_))
   have cC := (t_ af.n Z.n)
   obtain rfl := oi_ cT
   exact co cE _ _ lt_ ⟨(O + 1), aT, aA, bg, ha_, (fs_ ab.wf (fs_ ab.wf (fs_ ab.wf (fr_ ab.wf) af ir_) Z in_) bJ (Inn.trans ir_ (Nat.le_refl _) aP)), cz, (Inn.trans (Inn.trans ir_ (Nat.le_refl _) aP) cC cd)⟩
  have cU := Zi aK ar
  refine ZK (Zj (Zj (ZV ?_)))
  obtain rfl := oi_ cU
  obtain rfl := Zx bg
  exact cn _ _ ⟨f46, ha_, (fs_ ab.wf (fr_ ab.wf) af ir_), aQ, (Inn.trans ir_ (Nat.le_refl _) aP)⟩
 obtain ⟨az, ba, bI, cy, ca⟩ := hM
 obtain ⟨β, rfl⟩ := Zk ba
 clear ba
 refine ck _ _ (sq_ fun cj => g_' (q_ (.slice U Y V) (q_ (.slice U Y V) (Za (cj _ _ ?_)))))
 refine Zg ?_
 refine br_ [.slice U Y V] ?_
 have cD := (t_ ad.n ab.n)
 obtain rfl := oi_ cV
 exact ⟨(.slice U Y V), az, rfl, (fs_ aW (((f0_ aW).extR ad).extR ab) bI (ap.fresh ad.n)), cy, (Inn.trans (ap.fresh ad.n) cD ca)⟩
theorem ZeJ {H : AH} {ab : Value} {aP : Fp} {au : Value} {aR : Fp} {ac : Value} {aQ : Fp} {an : Value} {aS : Fp} {O : List (Int)} {az : List (Int)} {U : List (Bool)} {V : List (Bool)} {r : Int}
    (aO : WF H) (aC : Sq (Zak .u64) 1 H ab O aP) (aY : Sq (Zak .i64) 1 H au az aR) (aD : Sq ZaC 1 H ac U aQ) (aE : Sq ZaC 1 H an V aS) (aH : ZaF O az U V = some r) :
    ACalls Tryz.prog 90 #[.agg #[ab, au, ac, an]] H fun v H' => v = i_ r /\ FrS [] H H' := by
 refine ab_ Tryz.func90 ?_
 unfold ZaF at aH
 refine sq_ fun k1 => g_' ?_
 refine ZaG aO [ab, au, ac, an] (Zs (aC.one1) (Zs (aY.one1) (Zs (aD.one1) (Zs (aE.one1) (Z1))))) (by kernel_rfl) fun b2 ay aj bw ai => ?_
 refine q_ (i_ 0) (Za (k1 _ _ (sq_ fun bc => g_' (q_ (i_ (-1)) (Za (bc _ _ (sq_ fun bd => sq_ fun a6 => g_' (q_ (pt_ b2 2) (lr_ 30 2 (ac) ai ?_)))))))))
 have av := (aD.ext aj)
 refine av.ln_ 30 (q_ (i_ 0) (Za (a6 _ _ ?_)))
 obtain ⟨ah, a2, be⟩ := bs_ aH
 refine ZC (fun α aw => Has α [(3, i_ ah)] /\ ay = aw) (fun _ a7 => ?_) (fun α aw hM => ?_)
 ·refine Zm ?_
  obtain ⟨aI, a1⟩ := Zu.1 a2
  refine ZJ (fun n α ax => ∃ (D : Int), ∃ (e : Int), ZR (fun zz_ => Zam O U V zz_.1 zz_.2) n (D, e) = some ah /\ Has α [(1, pt_ b2 0), (3, i_ D), (7, i_ (U.length : Int)), (8, i_ e)] /\ ay = ax) aI ⟨(-1), 0, a1, ha_, rfl⟩ ?_
  rintro aI α ax ⟨D, e, aZ, aG, rfl⟩ bv ae
  obtain ⟨ag, bu, rfl, ad, Z⟩ := Zy aZ
  obtain ⟨β, rfl⟩ := Zk aG
  clear aG
  replace ad : Zam O U V D e = some bu := ad
  unfold Zam at ad
  refine sq_ fun a8 => g_' (q_ (.bool (decide (e < (U.length : Int)))) (Za (a8 _ _ (sq_ fun a_ => ?_))))
  refine wc_ (e < (U.length : Int)) (fun aa => ?_) fun aa => ?_
  ·have bf := Ze aa ad
   refine Zf (a_ _ _ (sq_ fun af => Zm (sq_ fun ba => g_' (q_ (i_ e) (q_ (i_ e) (Za (ba _ _ (sq_ fun ao => ?_))))))))
   refine ZQ [0, 1, 2, 3, 4, 5, 6, 7, 8, 9, 10, 11, 12, 13, 14, 15, 16, 17, 18, 19, 20, 21, 22, 23, 24, 25, 26, 27, 28, 29] (by kernel_rfl) ?_
   refine e_' (pt_ b2 2) (mr_ 30 2 (ac) ai (e_' (i_ e) ?_))
   obtain ⟨Y, aJ⟩ := Zb bf
   refine av.mx_ 30 Y aa (me_ 4 0 (.bool (gt U e)) av Y aa (e_' (.bool (gt U e)) ?_))
   by_cases al : (gt U e) = true
   ·have bg := Ze al aJ
    rw [al]
    refine e_' (pt_ b2 3) (mr_ 30 3 (an) ai (e_' (i_ e) ?_))
    obtain ⟨aA, aK⟩ := Zb bg
    have aN := (aE.ext aj)
    refine aN.mx_ 30 Y aA (me_ 4 0 (.bool (gt V e)) aN Y aA (e_' (.bool (!(gt V e))) (e_' (.bool (!(gt V e))) (e_' (.bool (!(gt V e))) ?_))))
    by_cases am : (!(gt V e)) = true
    ·have aL := Ze am aK
     rw [am]
     refine e_' (i_ D) ?_
     refine db_ (D < 0) (fun aq => ?_) fun aq => ?_
     ·have bh := Ze aq aL
      refine e_' (.bool true) (j_' (j_' (j_' (j_' (j_' (j_' (j_' (j_' (j_' (j_' (j_' (e_' (.bool true) (e_' (.bool true) ?_)))))))))))))
      refine ZI ?_
      refine ao _ _ ?_
      refine wb_ true (fun _ => ?_) fun h => by cases h
      refine g_' (q_ (i_ e) (q_ (i_ e) (Za (af _ _ (g_' ?_)))))
      obtain ⟨aT, bi⟩ := Zb bh
      refine w_' ((e + 1)) (Zn (by have := aT; omega)) (q_ (i_ (e + 1)) (Za ?_))
      obtain rfl := oi_ bi
      exact ae ag _ _ lt_ ⟨e, (e + 1), Z, ha_, rfl⟩
     have bj := Zi aq aL
     refine e_' (.bool false) (e_' (pt_ b2 0) (mr_ 36 0 (ab) ai (e_' (i_ e) ?_)))
     obtain ⟨aB, bk⟩ := Zb bj
     have ap := (aC.ext aj)
     refine ap.mx_ 36 Y aB (me_ 27 0 (.int .u64 (gt O e)) ap Y aB (e_' (pt_ b2 0) (mr_ 36 0 (ab) ai (e_' (i_ D) ?_))))
     obtain ⟨ak, aM⟩ := Zb bk
     refine ap.mx_ 36 ak.1 ak.2 (me_ 27 0 (.int .u64 (gt O D)) ap ak.1 ak.2 (e_' (.bool (decide ((gt O e) < (gt O D)))) (e_' (.bool (decide ((gt O e) < (gt O D)))) (e_' (.bool (decide ((gt O e) < (gt O D)))) ?_))))
     refine ZI ?_
     refine ao _ _ ?_
     refine wc_ ((gt O e) < (gt O D)) (fun ar => ?_) fun ar => ?_
     ·have bl := Ze ar aM
      refine g_' (q_ (i_ e) (q_ (i_ e) (Za (af _ _ (g_' ?_)))))
      obtain ⟨aU, bm⟩ := Zb bl
      refine w_' ((e + 1)) (Zn (by have := aU; omega)) (q_ (i_ (e + 1)) (Za ?_))
      obtain rfl := oi_ bm
      exact ae ag _ _ lt_ ⟨e, (e + 1), Z, ha_, rfl⟩
     have bn := Zi ar aM
     refine Zf (af _ _ (g_' ?_))
     obtain ⟨aV, bo⟩ := Zb bn
     refine w_' ((e + 1)) (Zn (by have := aV; omega)) (q_ (i_ (e + 1)) (Za ?_))
     obtain rfl := oi_ bo
     exact ae ag _ _ lt_ ⟨D, (e + 1), Z, ha_, rfl⟩
    have bp := Zi am aK
    rw [nb am]
    refine j_' (j_' (j_' (j_' (j_' (j_' (j_' (j_' (j_' (j_' (j_' (j_' (j_' (j_' (j_' (e_' (.bool false) ?_)))))))))))))))
    refine ZI ?_
    refine ao _ _ ?_
    refine wb_ false (fun h => by cases h) fun _ => ?_
    refine Zf (af _ _ (g_' ?_))
    obtain ⟨aW, bq⟩ := Zb bp
    refine w_' ((e + 1)) (Zn (by have := aW; omega)) (q_ (i_ (e + 1)) (Za ?_))
    obtain rfl := oi_ bq
    exact ae ag _ _ lt_ ⟨D, (e + 1), Z, ha_, rfl⟩
   have br := Zi al aJ
   rw [nb al]
   refine j_' (j_' (j_' (j_' (j_' (j_' (e_' (.bool false) (e_' (.bool false) (j_' (j_' (j_' (j_' (j_' (j_' (j_' (j_' (j_' (j_' (j_' (j_' (j_' (j_' (j_' (e_' (.bool false) ?_)))))))))))))))))))))))
   refine ZI ?_
   refine ao _ _ ?_
   refine wb_ false (fun h => by cases h) fun _ => ?_
   refine Zf (af _ _ (g_' ?_))
   obtain ⟨aX, bs⟩ := Zb br
   refine w_' ((e + 1)) (Zn (by have := aX; omega)) (q_ (i_ (e + 1)) (Za ?_))
   obtain rfl := oi_ bs
   exact ae ag _ _ lt_ ⟨D, (e + 1), Z, ha_, rfl⟩
  have bt := Zi aa ad
  refine ZK (Zj (Zj (ZV ?_)))
  obtain rfl := oi_ bt
  obtain rfl := Zx Z
  exact a7 _ _ ⟨ha_, rfl⟩
 obtain ⟨aF, rfl⟩ := hM
 obtain ⟨β, rfl⟩ := Zk aF
 clear aF
 refine bd _ _ (sq_ fun bb => g_' (q_ (i_ ah) (q_ (i_ ah) (Za (bb _ _ ?_)))))
 refine Zg ?_
 refine br_ [i_ ah] ?_
 obtain rfl := oi_ be
 exact ⟨rfl, ((f0_ aO).extR aj)⟩
theorem Zgt {H : AH} {aE : Value} {cg : Fp} {D : List (List (Int × Int))} {s : Int} {hops : Int} {settles : Int} {most : Int} {r : List (Int) × List (Int) × List (Bool) × List (Bool)}
    (a7 : WF H) (aX : Nst (CR.sl ZaY 2) H aE D cg) (cz : Zcp D s hops settles most = some r) :
    ACalls Tryz.prog 67 #[aE, i_ s, i_ hops, i_ settles, .int .u64 most] H fun v H' => ∃ (cY : Value) (bd : Fp) (cZ : Value) (be : Fp) (cW : Value) (bb : Fp) (cX : Value) (bc : Fp), v = .agg #[cY, cZ, cW, cX] /\ FrS [] H H' /\ Ow (Zak .u64) 1 H' cY r.1 bd /\ Ow (Zak .i64) 1 H' cZ r.2.1 be /\ Ow ZaC 1 H' cW r.2.2.1 bb /\ Ow ZaC 1 H' cX r.2.2.2 bc /\ Inn [] H bd /\ Inn [] H be /\ Inn [] H bb /\ Inn [] H bc /\ Dj bd be /\ Dj bd bb /\ Dj be bb /\ Dj bd bc /\ Dj be bc /\ Dj bb bc := by
 refine ab_ Tryz.func67 ?_
 unfold Zcp at cz
 refine sq_ fun ew => g_' ?_
 refine rk_ a7 [.slice none 0 0, .slice none 0 0, .slice none 0 0, .slice none 0 0] fun aN gI av dZ aQ => ?_
 refine Za (ew _ _ (sq_ fun eD => g_' (q_ (aE) ?_)))
 have db := (aX.ext av)
 refine db.ln_ 154 (q_ (i_ (D.length : Int)) (Za (eD _ _ (sq_ fun eF => ?_))))
 refine ZQ [0, 1, 2, 3, 4, 5, 6, 7, 8, 9, 10] (by kernel_rfl) ?_
 refine e_' (i_ (D.length : Int)) ?_
 obtain ⟨bo, f3⟩ := Zb cz
 refine Zhy (t := 36) (m := 8) (l := (D.length : Int)) (c := (D.length : Int)) (enc := (Zak .u64)) (sz := 1) av.wf (0 : Int) (by kernel_rfl) (by decide) bo.1 (Int.le_refl _) (by omega) (by have := bo; omega) (by kernel_rfl) fun gS aF di an bg ae => ?_
 obtain ⟨a45, af, ad, rfl⟩ := ae.form
 have ae : Ow (Zak .u64) 1 di (.slice a45 af ad) (List.replicate D.length (0 : Int)) aF := ae
 refine e_' (i_ (D.length : Int)) ?_
 refine Zhy (t := 26) (m := 8) (l := (D.length : Int)) (c := (D.length : Int)) (enc := (Zak .i64)) (sz := 1) an.wf (0 : Int) (by kernel_rfl) (by decide) bo.1 (Int.le_refl _) (by omega) (by have := bo; omega) (by kernel_rfl) fun gT f50 dk aa aY ar => ?_
 obtain ⟨a55, al, ah, rfl⟩ := ar.form
 have ar : Ow (Zak .i64) 1 dk (.slice a55 al ah) (List.replicate D.length (0 : Int)) f50 := ar
 refine e_' (i_ (D.length : Int)) ?_
 obtain ⟨bp, f_⟩ := Zb f3
 refine Zhy (t := 30) (m := 1) (l := (D.length : Int)) (c := (D.length : Int)) (enc := ZaC) (sz := 1) aa.wf (false : Bool) (by kernel_rfl) (by decide) bp.1 (Int.le_refl _) (by omega) (by have := bp; omega) (by kernel_rfl) fun gU aG dm Y aB aw => ?_
 obtain ⟨ag, am, ai, rfl⟩ := aw.form
 have aw : Ow ZaC 1 dm (.slice ag am ai) (List.replicate D.length (false : Bool)) aG := aw
 refine e_' (i_ (D.length : Int)) ?_
 refine Zhy (t := 30) (m := 1) (l := (D.length : Int)) (c := (D.length : Int)) (enc := ZaC) (sz := 1) Y.wf (false : Bool) (by kernel_rfl) (by decide) bp.1 (Int.le_refl _) (by omega) (by have := bp; omega) (by kernel_rfl) fun gV aW dn ab ak aM => ?_
 obtain ⟨a77, ax, au, rfl⟩ := aM.form
 have aM : Ow ZaC 1 dn (.slice a77 ax au) (List.replicate D.length (false : Bool)) aW := aM
 refine e_' (.agg #[.slice a45 af ad, .slice a55 al ah, .slice ag am ai, .slice a77 ax au]) ?_
 refine ZkI ab.wf [.slice none 0 0, .slice none 0 0, .slice none 0 0, .slice none 0 0] (by kernel_rfl) fun ac gM aq ay cV => ?_
 have gB := (aM.ext aq)
 have gC := ((aw.ext ab).ext aq)
 have gD := (((ar.ext Y).ext ab).ext aq)
 have gE := ((((ae.ext aa).ext Y).ext ab).ext aq)
 obtain ⟨gN, fw, ao, bT⟩ := ra_ 152 0 aq.wf cV [.slice a45 af ad, .slice a55 al ah, .slice ag am ai, .slice a77 ax au] [.slice a45 af ad, .slice a55 al ah, .slice ag am ai, .slice a77 ax au]
 refine fk_ fw (ZF) ?_
 refine ZI ?_
 refine eF _ _ (sq_ fun eH => g_' (q_ (pt_ ac 2) (lr_ 30 2 (.slice ag am ai) bT (q_ (i_ s) ?_))))
 obtain ⟨bq, ga⟩ := Zb f_
 have aO := (ay.djn (aw.lt.le ab.n))
 have de := (gC.fr ao aO)
 refine de.sq.ix_ 30 bq.1 bq.2 ?_
 obtain ⟨bW, fg, U, d4⟩ := Ow.store (P := Tryz.prog) (t := 4) (off := 0) ao.wf de bq.1 bq.2 (.bool true) [.bool true] (by kernel_rfl) (by kernel_rfl) rfl true (Nat.le_of_ble_eq_true rfl) (by kernel_rfl)
 refine ek_ fg (Za (eH _ _ (sq_ fun eh => sq_ fun ej => g_' (q_ (i_ 0) (Za (ej _ _ ?_))))))
 obtain ⟨bk, ec, fx⟩ := bs_ ga
 refine ZC (fun α aR => Has α [(10, pt_ aN 0), (12, pt_ ac 0)] /\ FrS (aF ++ (f50 ++ (aG ++ aW))) bW aR /\ Ow (Zak .u64) 1 aR (.slice a45 af ad) bk.1 aF /\ Ow (Zak .i64) 1 aR (.slice a55 al ah) bk.2.1 f50 /\ Ow ZaC 1 aR (.slice ag am ai) bk.2.2.1 aG /\ Ow ZaC 1 aR (.slice a77 ax au) bk.2.2.2 aW) (fun _ cB => ?_) (fun α aR hM => ?_)
 ·refine Zm ?_
  obtain ⟨cI, d8⟩ := Zu.1 ec
  have eP := (t_ (t_ aa.n Y.n) ab.n)
  have dp := (ay.djn (ae.lt.le eP))
  have dq := (aB.djn (ae.lt.le aa.n))
  have gc := ((gE.fr ao dp).fr U dq)
  have eQ := (t_ Y.n ab.n)
  have dr := (ay.djn (ar.lt.le eQ))
  have gd := ((gD.fr ao dr).fr U (aB.djn ar.lt))
  have dt := (ak.djn aw.lt)
  have ge := ((gB.fr ao (ay.djn aM.lt)).fr U (Dj.symm dt))
  refine ZJ (fun n α aS => ∃ (b4 : List (Int)), ∃ (aI : List (Int)), ∃ (aT : List (Bool)), ∃ (az : List (Bool)), ∃ (count8 : Int), ZR (fun zz_ => ZbH D hops settles most zz_.1 zz_.2.1 zz_.2.2.1 zz_.2.2.2.1 zz_.2.2.2.2) n (b4, aI, aT, az, count8) = some bk /\ Has α [(0, aE), (2, i_ hops), (3, i_ settles), (4, .int .u64 most), (10, pt_ aN 0), (12, pt_ ac 0), (13, i_ count8)] /\ FrS (aF ++ (f50 ++ (aG ++ aW))) bW aS /\ Ow (Zak .u64) 1 aS (.slice a45 af ad) b4 aF /\ Ow (Zak .i64) 1 aS (.slice a55 al ah) aI f50 /\ Ow ZaC 1 aS (.slice ag am ai) aT aG /\ Ow ZaC 1 aS (.slice a77 ax au) az aW) cI ⟨(List.replicate D.length (0 : Int)), (List.replicate D.length (0 : Int)), ((List.replicate D.length (false : Bool)).set s.toNat true), (List.replicate D.length (false : Bool)), 0, d8, ha_, (fr_ U.wf), gc, gd, d4, ge⟩ ?_
  rintro cI α aS ⟨b4, aI, aT, az, count8, d0, cu, ap, aZ, bu, bj, bv⟩ gO cC
  obtain ⟨cJ, gF, rfl, bh, bt⟩ := Zy d0
  obtain ⟨β, rfl⟩ := Zk cu
  clear cu
  replace bh : ZbH D hops settles most b4 aI aT az count8 = some gF := bh
  unfold ZbH at bh
  refine sq_ fun ek => sq_ fun el => g_' (q_ (i_ count8) (q_ (i_ settles) (q_ (.bool (decide (count8 < settles))) (Za (el _ _ ?_)))))
  refine wc_ (count8 < settles) (fun bH => ?_) fun bH => ?_
  ·have fy := Ze bH bh
   refine Zf (ek _ _ (sq_ fun cD => Zm (sq_ fun em => g_' ?_)))
   have bZ := (ay.djn aM.lt)
   have eR := (t_ Y.n ab.n)
   have b5 := (ay.djn (ar.lt.le eR))
   have eS := (t_ (t_ aa.n Y.n) ab.n)
   have bC := (ay.djn (ae.lt.le eS))
   have bU := ((bT.frS U (Dj.symm aO)).frS ap (Dj.app (Dj.symm bC) (Dj.app (Dj.symm b5) (Dj.app (Dj.symm aO) (Dj.symm bZ)))))
   refine lr_ 152 0 (.agg #[.slice a45 af ad, .slice a55 al ah, .slice ag am ai, .slice a77 ax au]) bU ?_
   obtain ⟨e, ef, fz⟩ := bs_ fy
   refine ck_ (ZeJ ap.wf aZ.sq bu.sq bj.sq bv.sq ef) ?_
   rintro _ df ⟨rfl, Z⟩
   refine q_ (i_ e) (Za (em _ _ (sq_ fun eo => sq_ fun ep => ?_)))
   obtain ⟨cO, cA, cQ⟩ := bs_ fz
   refine ZC (fun α bX => Has α [(0, aE), (2, i_ hops), (3, i_ settles), (4, .int .u64 most), (10, pt_ aN 0), (12, pt_ ac 0), (13, i_ count8), (14, i_ e), (50, .bool cO)] /\ df = bX) (fun _ cE => ?_) (fun α bX hM => ?_)
   ·refine g_' (q_ (i_ e) ?_)
    refine sb_ (e < 0) (fun bI => ?_) fun bI => ?_
    ·have fA := Ze bI cA
     refine q_ (.bool true) (n_' (n_' (n_' (n_' (n_' (n_' (n_' (q_ (.bool true) (Za ?_)))))))))
     obtain rfl := oi_ fA
     exact cE _ _ ⟨ha_, rfl⟩
    have fB := Zi bI cA
    refine q_ (.bool false) (q_ (pt_ ac 0) ?_)
    have gf := (bU.frS Z dn_)
    refine lr_ 36 0 (.slice a45 af ad) gf (q_ (i_ e) ?_)
    obtain ⟨bn, fC⟩ := Zb fB
    have c0 := (aZ.fr Z dn_)
    refine c0.sq.ix_ 36 bn.1 bn.2 (le_ 27 0 (.int .u64 (gt b4 e)) c0.sq bn.1 bn.2 (q_ (.int .u64 most) (q_ (.bool (decide ((gt b4 e) > most))) (q_ (.bool (decide ((gt b4 e) > most))) (Za ?_)))))
    obtain rfl := oi_ fC
    exact cE _ _ ⟨ha_, rfl⟩
   obtain ⟨cv, rfl⟩ := hM
   obtain ⟨β, rfl⟩ := Zk cv
   clear cv
   refine ep _ _ ?_
   refine wb_ (cO) (fun bJ => ?_) fun bJ => ?_
   ·have fD := Ze bJ cQ
    refine ZK (Zj (ZiT (by decide) (Zj (Zj (ZV ?_)))))
    have gg := (aZ.fr Z dn_)
    have gh := (bu.fr Z dn_)
    have gi := (bj.fr Z dn_)
    have gj := (bv.fr Z dn_)
    obtain rfl := oi_ fD
    obtain rfl := Zx bt
    exact cB _ _ ⟨ha_, (fs_ U.wf (fs_ U.wf (fr_ U.wf) ap ir_) Z in_), gg, gh, gi, gj⟩
   have fE := ZL bJ cQ
   refine Zf (eo _ _ (sq_ fun eq => g_' (q_ (pt_ ac 3) ?_)))
   have c3 := (bU.frS Z dn_)
   refine lr_ 30 3 (.slice a77 ax au) c3 (q_ (i_ e) ?_)
   obtain ⟨aA, fF⟩ := Zb fE
   have c4 := (bv.fr Z dn_)
   refine c4.sq.ix_ 30 aA.1 aA.2 ?_
   obtain ⟨bl, fh, V, bM⟩ := Ow.store (P := Tryz.prog) (t := 4) (off := 0) Z.wf c4 aA.1 aA.2 (.bool true) [.bool true] (by kernel_rfl) (by kernel_rfl) rfl true (Nat.le_of_ble_eq_true rfl) (by kernel_rfl)
   refine ek_ fh (Za (eq _ _ (sq_ fun es => sq_ fun et => g_' (q_ (pt_ ac 1) ?_))))
   have c5 := (c3.frS V (Dj.symm bZ))
   refine lr_ 26 1 (.slice a55 al ah) c5 (q_ (i_ e) ?_)
   obtain ⟨ch, cR⟩ := Zb fF
   have bD := (ak.djn (ar.lt.le Y.n))
   have bx := ((bu.fr Z dn_).fr V bD)
   refine bx.sq.ix_ 26 aA.1 ch (le_ 3 0 (i_ (gt aI e)) bx.sq aA.1 ch (q_ (i_ hops) (q_ (.bool (decide ((gt aI e) ≥ hops))) (Za (et _ _ ?_)))))
   refine wc_ ((gt aI e) ≥ hops) (fun bK => ?_) fun bK => ?_
   ·have fG := Ze bK cR
    refine ZK (Zj (ZV ?_))
    refine cD _ _ (g_' (q_ (i_ count8) ?_))
    obtain ⟨dT, fH⟩ := Zb fG
    refine w_' ((count8 + 1)) (Zn dT) (q_ (i_ (count8 + 1)) (Za ?_))
    have eT := (t_ aa.n Y.n)
    have du := (ak.djn (ae.lt.le eT))
    have gk := ((aZ.fr Z dn_).fr V du)
    have gl := ((bj.fr Z dn_).fr V (ak.djn aw.lt))
    obtain rfl := oi_ fH
    exact cC cJ _ _ lt_ ⟨b4, aI, aT, (az.set e.toNat true), (count8 + 1), bt, ha_, (fs_ U.wf (fs_ U.wf (fs_ U.wf (fr_ U.wf) ap ir_) Z in_) V (Inn.right (Inn.right (Inn.right ir_)))), gk, bx, gl, bM⟩
   have fI := Zi bK cR
   refine Zf (es _ _ (sq_ fun eu => g_' (q_ (aE) (q_ (i_ e) ?_))))
   obtain ⟨ci, fJ⟩ := Zb fI
   have eU := (t_ (t_ (t_ (t_ av.n an.n) aa.n) Y.n) ab.n)
   have dv := (ay.djn (aX.lt.le eU))
   have eV := (t_ (t_ av.n an.n) aa.n)
   have bE := (aB.djn (aX.lt.le eV))
   have eW := (t_ (t_ (t_ av.n an.n) aa.n) Y.n)
   have b6 := (ak.djn (aX.lt.le eW))
   have eX := (t_ av.n an.n)
   have b7 := (aY.djn (aX.lt.le eX))
   have b8 := (bg.djn (aX.lt.le av.n))
   have bV := ((((((((((db.ext an).ext aa).ext Y).ext ab).ext aq).fr ao dv).fr U bE).fr ap (Dj.app b8 (Dj.app b7 (Dj.app bE b6)))).fr Z dn_).fr V b6)
   refine bV.ix_ 154 aA.1 ci ?_
   obtain ⟨gQ, gR, d2, eb, d3, ea⟩ := bV.kid aA.1 ci
   obtain ⟨gb, rfl, d_⟩ := ZhS d2
   have bP : KdS ZaY 2 bl gb (gt D e) cg aE 1 e.toNat 0 := ⟨d_.sq.up eb bV.lt, ea 0 _ rfl (by decide)⟩
   obtain ⟨bA, bR, bB, rfl⟩ := bP.sq.form
   refine l_' (.slice bA bR bB) (aL_ 188 (elp aE 1 e.toNat 0) bl) (d3 _ _ _ _ (by kernel_rfl)) (bP.sq.ln_ 188 (q_ (i_ 0) (Za (eu _ _ ?_))))
   obtain ⟨aP, ed, fK⟩ := bs_ fJ
   refine ZC (fun α a8 => Has α [(0, aE), (2, i_ hops), (3, i_ settles), (4, .int .u64 most), (10, pt_ aN 0), (12, pt_ ac 0), (13, i_ count8)] /\ FrS (aF ++ (f50 ++ aG)) bl a8 /\ Ow (Zak .u64) 1 a8 (.slice a45 af ad) aP.1 aF /\ Ow (Zak .i64) 1 a8 (.slice a55 al ah) aP.2.1 f50 /\ Ow ZaC 1 a8 (.slice ag am ai) aP.2.2 aG) (fun _ ev => ?_) (fun α a8 hM => ?_)
   ·refine Zm ?_
    obtain ⟨cK, d9⟩ := Zu.1 ed
    have eY := (t_ aa.n Y.n)
    have dw := (ak.djn (ae.lt.le eY))
    have gm := ((aZ.fr Z dn_).fr V dw)
    have gn := ((bj.fr Z dn_).fr V (ak.djn aw.lt))
    refine ZJ (fun n α a_ => ∃ (b0 : List (Int)), ∃ (b1 : List (Int)), ∃ (b2 : List (Bool)), ∃ (O : Int), ZR (fun zz_ => ZaO D az e zz_.1 zz_.2.1 zz_.2.2.1 zz_.2.2.2) n (b0, b1, b2, O) = some aP /\ Has α [(0, aE), (2, i_ hops), (3, i_ settles), (4, .int .u64 most), (10, pt_ aN 0), (12, pt_ ac 0), (13, i_ count8), (14, i_ e), (65, .slice bA bR bB), (66, i_ ((gt D e).length : Int)), (67, i_ O)] /\ FrS (aF ++ (f50 ++ aG)) bl a_ /\ Ow (Zak .u64) 1 a_ (.slice a45 af ad) b0 aF /\ Ow (Zak .i64) 1 a_ (.slice a55 al ah) b1 f50 /\ Ow ZaC 1 a_ (.slice ag am ai) b2 aG) cK ⟨b4, aI, aT, 0, d9, ha_, (fr_ V.wf), gm, bx, gn⟩ ?_
    rintro cK α a_ ⟨b0, b1, b2, O, d1, cx, aj, cH, bQ, bw⟩ gP cF
    obtain ⟨cL, gG, rfl, bi, bN⟩ := Zy d1
    obtain ⟨β, rfl⟩ := Zk cx
    clear cx
    replace bi : ZaO D az e b0 b1 b2 O = some gG := bi
    unfold ZaO at bi
    refine sq_ fun ex => g_' (q_ (.bool (decide (O < ((gt D e).length : Int)))) (Za (ex _ _ (sq_ fun ey => ?_))))
    refine wc_ (O < ((gt D e).length : Int)) (fun bf => ?_) fun bf => ?_
    ·have fL := Ze bf bi
     refine Zf (ey _ _ (sq_ fun cG => Zm (sq_ fun ez => g_' ?_)))
     obtain ⟨cj, fM⟩ := Zb fL
     have c6 := (bP.fr aj (Dj.app b8 (Dj.app b7 bE)))
     refine c6.sq.ix_ 188 cj bf (le_ 190 0 (.agg #[i_ ((gt (gt D e) O).1), .int .u64 ((gt (gt D e) O).2)]) c6.sq cj bf ?_)
     refine rk_ aj.wf [i_ 0, .int .u64 0] fun aJ gH aC aH fN => ?_
     obtain ⟨dg, fj, aD, a1⟩ := ra_ 190 0 aC.wf fN [i_ ((gt (gt D e) O).1), .int .u64 ((gt (gt D e) O).2)] [i_ ((gt (gt D e) O).1), .int .u64 ((gt (gt D e) O).2)]
     refine ek_ fj (Za (ez _ _ (sq_ fun eA => ?_)))
     refine ZQ [0, 1, 2, 3, 4, 5, 6, 7, 8] (by kernel_rfl) ?_
     refine e_' (pt_ ac 0) ?_
     have eZ := (t_ (t_ (t_ (t_ (t_ ao.n U.n) ap.n) Z.n) V.n) aj.n)
     have dx := (aH.djn (cV.ltF.le eZ))
     have a2 := (((c5.frS aj (Dj.app (Dj.symm bC) (Dj.app (Dj.symm b5) (Dj.symm aO)))).ext aC).frS aD dx)
     refine mr_ 36 0 (.slice a45 af ad) a2 (e_' (i_ e) ?_)
     obtain ⟨ck, fO⟩ := Zb fM
     have e0 := (t_ (t_ (t_ (t_ (t_ (t_ (t_ (t_ (t_ aa.n Y.n) ab.n) aq.n) ao.n) U.n) ap.n) Z.n) V.n) aj.n)
     have b9 := (aH.djn (ae.lt.le e0))
     have a6 := ((cH.ext aC).fr aD b9)
     refine a6.sq.mx_ 36 aA.1 ck (me_ 27 0 (.int .u64 (gt b0 e)) a6.sq aA.1 ck (e_' (pt_ aJ 1) (mr_ 27 1 (.int .u64 ((gt (gt D e) O).2)) a1 ?_)))
     obtain ⟨dU, fP⟩ := Zb fO
     refine d_w (((gt b0 e) + ((gt (gt D e) O).2))) (k := .u64) (x := ((gt b0 e) + ((gt (gt D e) O).2))) (by kernel_rfl) (Zdw dU) ?_
     refine e_' (.int .u64 ((gt b0 e) + ((gt (gt D e) O).2))) ?_
     refine ZI ?_
     refine eA _ _ (sq_ fun eB => ?_)
     obtain ⟨cP, ee, cS⟩ := bs_ fP
     refine ZC (fun α bY => Has α [(0, aE), (2, i_ hops), (3, i_ settles), (4, .int .u64 most), (10, pt_ aN 0), (12, pt_ ac 0), (13, i_ count8), (14, i_ e), (16, pt_ aJ 0), (17, .int .u64 ((gt b0 e) + ((gt (gt D e) O).2))), (65, .slice bA bR bB), (66, i_ ((gt D e).length : Int)), (67, i_ O), (104, .bool cP)] /\ dg = bY) (fun _ bO => ?_) (fun α bY hM => ?_)
     ·refine g_' (q_ (pt_ ac 3) (lr_ 30 3 (.slice a77 ax au) a2 (q_ (pt_ aJ 0) (lr_ 3 0 (i_ ((gt (gt D e) O).1)) a1 ?_))))
      obtain ⟨aK, cT⟩ := Zb ee
      have dy := (ak.djn aw.lt)
      have e1 := (t_ aa.n Y.n)
      have dz := (ak.djn (ae.lt.le e1))
      have e2 := (t_ (t_ (t_ (t_ (t_ (t_ aq.n ao.n) U.n) ap.n) Z.n) V.n) aj.n)
      have dA := (aH.djn (aM.lt.le e2))
      have c7 := (((bM.fr aj (Dj.app (Dj.symm dz) (Dj.app (Dj.symm bD) (Dj.symm dy)))).ext aC).fr aD dA)
      refine c7.sq.ix_ 30 aK.1 aK.2 (le_ 4 0 (.bool (gt (az.set e.toNat true) ((gt (gt D e) O).1))) c7.sq aK.1 aK.2 (q_ (.bool (!(gt (az.set e.toNat true) ((gt (gt D e) O).1)))) (q_ (.bool (!(gt (az.set e.toNat true) ((gt (gt D e) O).1)))) ?_)))
      by_cases br : (!(gt (az.set e.toNat true) ((gt (gt D e) O).1))) = true
      ·have fQ := Ze br cT
       rw [br]
       refine q_ (pt_ ac 2) (lr_ 30 2 (.slice ag am ai) a2 (q_ (pt_ aJ 0) (lr_ 3 0 (i_ ((gt (gt D e) O).1)) a1 ?_)))
       obtain ⟨cm, cU⟩ := Zb fQ
       have e3 := (t_ (t_ (t_ (t_ (t_ (t_ (t_ ab.n aq.n) ao.n) U.n) ap.n) Z.n) V.n) aj.n)
       have dB := (aH.djn (aw.lt.le e3))
       have c8 := ((bw.ext aC).fr aD dB)
       refine c8.sq.ix_ 30 aK.1 cm (le_ 4 0 (.bool (gt b2 ((gt (gt D e) O).1))) c8.sq aK.1 cm (q_ (.bool (!(gt b2 ((gt (gt D e) O).1)))) (q_ (.bool (!(gt b2 ((gt (gt D e) O).1)))) ?_)))
       by_cases bs : (!(gt b2 ((gt (gt D e) O).1))) = true
       ·have fR := Ze bs cU
        rw [bs]
        refine n_' (n_' (n_' (n_' (n_' (n_' (n_' (n_' (q_ (.bool true) (q_ (.bool true) (Za ?_))))))))))
        obtain rfl := oi_ fR
        exact bO _ _ ⟨ha_, rfl⟩
       have fS := Zi bs cU
       rw [nb bs]
       refine q_ (.int .u64 ((gt b0 e) + ((gt (gt D e) O).2))) (q_ (pt_ ac 0) (lr_ 36 0 (.slice a45 af ad) a2 (q_ (pt_ aJ 0) (lr_ 3 0 (i_ ((gt (gt D e) O).1)) a1 ?_))))
       obtain ⟨cn, fT⟩ := Zb fS
       refine a6.sq.ix_ 36 aK.1 cn (le_ 27 0 (.int .u64 (gt b0 ((gt (gt D e) O).1))) a6.sq aK.1 cn (q_ (.bool (decide (((gt b0 e) + ((gt (gt D e) O).2)) < (gt b0 ((gt (gt D e) O).1))))) (q_ (.bool (decide (((gt b0 e) + ((gt (gt D e) O).2)) < (gt b0 ((gt (gt D e) O).1))))) (q_ (.bool (decide (((gt b0 e) + ((gt (gt D e) O).2)) < (gt b0 ((gt (gt D e) O).1))))) (Za ?_)))))
       obtain rfl := oi_ fT
       exact bO _ _ ⟨ha_, rfl⟩
      have fU := Zi br cT
      rw [nb br]
      refine n_' (n_' (n_' (n_' (n_' (n_' (n_' (n_' (n_' (n_' (n_' (n_' (n_' (n_' (n_' (n_' (n_' (q_ (.bool false) (Za ?_))))))))))))))))))
      obtain rfl := oi_ fU
      exact bO _ _ ⟨ha_, rfl⟩
     obtain ⟨cy, rfl⟩ := hM
     obtain ⟨β, rfl⟩ := Zk cy
     clear cy
     refine eB _ _ ?_
     refine wb_ (cP) (fun bL => ?_) fun bL => ?_
     ·have fV := Ze bL cS
      refine sq_ fun eC => g_' (q_ (pt_ ac 2) (lr_ 30 2 (.slice ag am ai) a2 (q_ (pt_ aJ 0) (lr_ 3 0 (i_ ((gt (gt D e) O).1)) a1 ?_))))
      obtain ⟨aL, fW⟩ := Zb fV
      have e4 := (t_ (t_ (t_ (t_ (t_ (t_ (t_ ab.n aq.n) ao.n) U.n) ap.n) Z.n) V.n) aj.n)
      have b_ := (aH.djn (aw.lt.le e4))
      have c9 := ((bw.ext aC).fr aD b_)
      refine c9.sq.ix_ 30 aL.1 aL.2 ?_
      obtain ⟨gJ, fm, aU, d5⟩ := Ow.store (P := Tryz.prog) (t := 4) (off := 0) aD.wf c9 aL.1 aL.2 (.bool true) [.bool true] (by kernel_rfl) (by kernel_rfl) rfl true (Nat.le_of_ble_eq_true rfl) (by kernel_rfl)
      refine ek_ fm (Za (eC _ _ (sq_ fun eE => g_' (q_ (pt_ ac 0) ?_))))
      have c_ := (a2.frS aU (Dj.symm aO))
      refine lr_ 36 0 (.slice a45 af ad) c_ (q_ (pt_ aJ 0) ?_)
      have da := (a1.frS aU (Dj.symm b_))
      refine lr_ 3 0 (i_ ((gt (gt D e) O).1)) da (q_ (.int .u64 ((gt b0 e) + ((gt (gt D e) O).2))) ?_)
      obtain ⟨co, fX⟩ := Zb fW
      have ca := (aB.djn (ae.lt.le aa.n))
      have dc := (a6.fr aU ca)
      refine dc.sq.ix_ 36 aL.1 co ?_
      obtain ⟨gK, fo, aV, d6⟩ := Ow.store (P := Tryz.prog) (t := 27) (off := 0) aU.wf dc aL.1 co (.int .u64 ((gt b0 e) + ((gt (gt D e) O).2))) [.int .u64 ((gt b0 e) + ((gt (gt D e) O).2))] (by kernel_rfl) (by kernel_rfl) rfl ((gt b0 e) + ((gt (gt D e) O).2)) (Nat.le_of_ble_eq_true rfl) (by kernel_rfl)
      refine ek_ fo (Za (eE _ _ ?_))
      refine ZQ [0, 1, 2, 3, 4, 5, 6, 7, 8, 9, 10, 11] (by kernel_rfl) ?_
      refine e_' (pt_ ac 1) ?_
      have dd := (c_.frS aV (Dj.symm bC))
      refine mr_ 26 1 (.slice a55 al ah) dd (e_' (pt_ aJ 0) ?_)
      have go := (da.frS aV (Dj.symm b9))
      refine mr_ 3 0 (i_ ((gt (gt D e) O).1)) go (e_' (pt_ ac 1) (mr_ 26 1 (.slice a55 al ah) dd (e_' (i_ e) ?_)))
      obtain ⟨cp, fY⟩ := Zb fX
      have e5 := (t_ (t_ (t_ (t_ (t_ (t_ (t_ (t_ Y.n ab.n) aq.n) ao.n) U.n) ap.n) Z.n) V.n) aj.n)
      have dC := (aH.djn (ar.lt.le e5))
      have cc := (aY.djn ae.lt)
      have bz := ((((bQ.ext aC).fr aD dC).fr aU (aB.djn ar.lt)).fr aV (Dj.symm cc))
      refine bz.sq.mx_ 26 aA.1 cp (me_ 3 0 (i_ (gt b1 e)) bz.sq aA.1 cp ?_)
      obtain ⟨dV, fZ⟩ := Zb fY
      refine d_w (((gt b1 e) + 1)) (k := .i64) (x := ((gt b1 e) + 1)) (by kernel_rfl) (Zn dV) ?_
      obtain ⟨cq, f0⟩ := Zb fZ
      refine bz.sq.mx_ 26 aL.1 cq ?_
      obtain ⟨gL, fu, bG, d7⟩ := Ow.store (P := Tryz.prog) (t := 3) (off := 0) aV.wf bz aL.1 cq (i_ ((gt b1 e) + 1)) [i_ ((gt b1 e) + 1)] (by kernel_rfl) (by kernel_rfl) rfl ((gt b1 e) + 1) (Nat.le_of_ble_eq_true rfl) (by kernel_rfl)
      refine fk_ fu (ZF) ?_
      refine ZI ?_
      refine cG _ _ (g_' ?_)
      obtain ⟨dW, f1⟩ := Zb f0
      refine w_' ((O + 1)) (Zn (by have := dW; omega)) (q_ (i_ (O + 1)) (Za ?_))
      have gp := (d6.fr bG cc)
      have dD := (aB.djn ar.lt)
      have gq := ((d5.fr aV (Dj.symm ca)).fr bG (Dj.symm dD))
      obtain rfl := oi_ f1
      exact cF cL _ _ lt_ ⟨(b0.set ((gt (gt D e) O).1).toNat ((gt b0 e) + ((gt (gt D e) O).2))), (b1.set ((gt (gt D e) O).1).toNat ((gt b1 e) + 1)), (b2.set ((gt (gt D e) O).1).toNat true), (O + 1), bN, ha_, (fs_ V.wf (fs_ V.wf (fs_ V.wf (fs_ V.wf ((fs_ V.wf (fr_ V.wf) aj ir_).extR aC) aD (aH.fresh aj.n)) aU (Inn.right (Inn.right ir_))) aV Inn.left) bG (Inn.right Inn.left)), gp, d7, gq⟩
     have f2 := ZL bL cS
     refine Zf (cG _ _ (g_' ?_))
     obtain ⟨dX, f4⟩ := Zb f2
     refine w_' ((O + 1)) (Zn (by have := dX; omega)) (q_ (i_ (O + 1)) (Za ?_))
     have e6 := (t_ (t_ (t_ (t_ (t_ (t_ (t_ (t_ Y.n ab.n) aq.n) ao.n) U.n) ap.n) Z.n) V.n) aj.n)
     have dE := (aH.djn (ar.lt.le e6))
     have gr := ((bQ.ext aC).fr aD dE)
     have e7 := (t_ (t_ (t_ (t_ (t_ (t_ (t_ ab.n aq.n) ao.n) U.n) ap.n) Z.n) V.n) aj.n)
     have dF := (aH.djn (aw.lt.le e7))
     have gs := ((bw.ext aC).fr aD dF)
     obtain rfl := oi_ f4
     exact cF cL _ _ lt_ ⟨b0, b1, b2, (O + 1), bN, ha_, (fs_ V.wf ((fs_ V.wf (fr_ V.wf) aj ir_).extR aC) aD (aH.fresh aj.n)), a6, gr, gs⟩
    have f5 := Zi bf bi
    refine ZK (Zj (Zj (ZV ?_)))
    obtain rfl := oi_ f5
    obtain rfl := Zx bN
    exact ev _ _ ⟨ha_, (fs_ V.wf (fr_ V.wf) aj ir_), cH, bQ, bw⟩
   obtain ⟨cw, cf, eM, eN, eO⟩ := hM
   obtain ⟨β, rfl⟩ := Zk cw
   clear cw
   refine cD _ _ (g_' (q_ (i_ count8) ?_))
   obtain ⟨dY, f7⟩ := Zb fK
   refine w_' ((count8 + 1)) (Zn dY) (q_ (i_ (count8 + 1)) (Za ?_))
   have dG := (ak.djn aw.lt)
   have e8 := (t_ aa.n Y.n)
   have dH := (ak.djn (ae.lt.le e8))
   have gu := (bM.fr cf (Dj.app (Dj.symm dH) (Dj.app (Dj.symm bD) (Dj.symm dG))))
   obtain rfl := oi_ f7
   exact cC cJ _ _ lt_ ⟨aP.1, aP.2.1, aP.2.2, (az.set e.toNat true), (count8 + 1), bt, ha_, (fs_ U.wf (fs_ U.wf (fs_ U.wf (fs_ U.wf (fr_ U.wf) ap ir_) Z in_) V (Inn.right (Inn.right (Inn.right ir_)))) cf (Inn.app Inn.left (Inn.app (Inn.right Inn.left) (Inn.right (Inn.right Inn.left))))), eM, eN, eO, gu⟩
  have f8 := Zi bH bh
  refine ZK (Zj (Zj (ZV ?_)))
  obtain rfl := oi_ f8
  obtain rfl := Zx bt
  exact cB _ _ ⟨ha_, (fs_ U.wf (fr_ U.wf) ap ir_), aZ, bu, bj, bv⟩
 obtain ⟨cr, bm, eI, eJ, eK, eL⟩ := hM
 obtain ⟨β, rfl⟩ := Zk cr
 clear cr
 refine eh _ _ (sq_ fun eG => g_' ?_)
 have dI := (ay.djn aM.lt)
 have e9 := (t_ Y.n ab.n)
 have dJ := (ay.djn (ar.lt.le e9))
 have e_ := (t_ (t_ aa.n Y.n) ab.n)
 have dK := (ay.djn (ae.lt.le e_))
 have gv := ((bT.frS U (Dj.symm aO)).frS bm (Dj.app (Dj.symm dK) (Dj.app (Dj.symm dJ) (Dj.app (Dj.symm aO) (Dj.symm dI)))))
 refine lr_ 152 0 (.agg #[.slice a45 af ad, .slice a55 al ah, .slice ag am ai, .slice a77 ax au]) gv ?_
 have fa := (t_ (t_ (t_ an.n aa.n) Y.n) ab.n)
 have dL := (ay.djn (aQ.ltF.le fa))
 have fb := (t_ an.n aa.n)
 have bF := (aB.djn (aQ.ltF.le fb))
 have fc := (t_ (t_ an.n aa.n) Y.n)
 have cd := (ak.djn (aQ.ltF.le fc))
 have ce := (aY.djn (aQ.ltF.le an.n))
 have gw := ((((((((aQ.ext an).ext aa).ext Y).ext ab).ext aq).frS ao dL).frS U bF).frS bm (Dj.app (bg.djn aQ.ltF) (Dj.app ce (Dj.app bF cd))))
 obtain ⟨dh, fv, ba, f9⟩ := ra_ 152 0 bm.wf gw [.slice a45 af ad, .slice a55 al ah, .slice ag am ai, .slice a77 ax au] [.slice a45 af ad, .slice a55 al ah, .slice ag am ai, .slice a77 ax au]
 refine ek_ fv (Za (eG _ _ ?_))
 refine Zg ?_
 refine Z3 (vs := [.agg #[.slice a45 af ad, .slice a55 al ah, .slice ag am ai, .slice a77 ax au]]) (ZM (Eq.trans (b := aL_ 152 (pt_ aN 0) dh) (by kernel_rfl) (f9.l_)) (rfl)) ?_
 have fd := (t_ (t_ (t_ (t_ av.n an.n) aa.n) Y.n) ab.n)
 have bS := (t_ (t_ av.n an.n) aa.n)
 have cM := (t_ (t_ (t_ av.n an.n) aa.n) Y.n)
 have cN := (t_ av.n an.n)
 have dM := (bg.djn aQ.ltF)
 have gx := (eI.fr ba (Dj.symm dM))
 have gy := (eJ.fr ba (Dj.symm ce))
 have gz := (eK.fr ba (Dj.symm bF))
 have gA := (eL.fr ba (Dj.symm cd))
 have dN := (aY.djn ae.lt)
 have dO := (aB.djn (ae.lt.le aa.n))
 have dP := (aB.djn ar.lt)
 have ff := (t_ aa.n Y.n)
 have dQ := (ak.djn (ae.lt.le ff))
 have dR := (ak.djn (ar.lt.le Y.n))
 have dS := (ak.djn aw.lt)
 obtain rfl := oi_ fx
 exact ⟨(.slice a45 af ad), aF, (.slice a55 al ah), f50, (.slice ag am ai), aG, (.slice a77 ax au), aW, rfl, (fs_ a7 (fs_ a7 (fs_ a7 (fs_ a7 (((((((f0_ a7).extR av).extR an).extR aa).extR Y).extR ab).extR aq) ao (ay.fresh fd)) U (aB.fresh bS)) bm (Inn.app (bg.fresh av.n) (Inn.app (aY.fresh cN) (Inn.app (aB.fresh bS) (ak.fresh cM))))) ba (dZ.fresh (Nat.le_refl _))), gx, gy, gz, gA, (bg.fresh av.n), (aY.fresh cN), (aB.fresh bS), (ak.fresh cM), (Dj.symm dN), (Dj.symm dO), (Dj.symm dP), (Dj.symm dQ), (Dj.symm dR), (Dj.symm dS)⟩
theorem Zgj {H : AH} {ap : Value} {bF : Fp} {aq : Value} {bG : Fp} {ar : Value} {bH : Fp} {aT : List (Bool)} {Arcs : List (Int × Int × Int × Int)} {u : Int} {skip : Int} {goals : List (Int)} {most : Int} {hops : Int} {settles : Int} {r : List (Int)}
    (ab : WF H) (a2 : Sq ZaC 1 H ap aT bF) (a6 : Sq Zo 4 H aq Arcs bG) (a7 : Sq (Zak .i64) 1 H ar goals bH) (be : Zb9 aT Arcs u skip goals most hops settles = some r) :
    ACalls Tryz.prog 46 #[.agg #[ap, aq], i_ u, i_ skip, ar, .int .u64 most, i_ hops, i_ settles] H fun v H' => ∃ (bs : Value) (aY : Fp), v = bs /\ FrS [] H H' /\ Ow (Zak .u64) 1 H' bs r aY /\ Inn [] H aY := by
 refine ab_ Tryz.func46 ?_
 unfold Zb9 at be
 refine sq_ fun b6 => g_' ?_
 refine ZaG ab [ap, aq] (Zs (a2.one1) (Zs (a6.one1) (Z1))) (by kernel_rfl) fun cS cN V c_ cg => ?_
 refine q_ (.slice none 0 0) (Za (b6 _ _ (sq_ fun bY => g_' (lr_ 33 0 (.agg #[ap, aq]) cg (q_ (i_ skip) ?_)))))
 have cz := (a2.ext V)
 have cA := (a6.ext V)
 obtain ⟨dz, bR, cp⟩ := bs_ be
 refine ck_ (Zgm V.wf cz cA bR) ?_
 rintro dr cK ⟨_, f20, rfl, ac, bh, dc⟩
 obtain ⟨cR, dk, cV, rfl⟩ := bh.form
 refine q_ (i_ u) (q_ (i_ hops) (q_ (i_ settles) (q_ (.int .u64 most) ?_)))
 obtain ⟨Y, bS, cv⟩ := bs_ cp
 refine ck_ (Zgt ac.wf bh bS) ?_
 rintro _ cL ⟨dt, c6, du, c7, dv, c8, dw, c9, rfl, ad, aK, bi, aL, bj, dd, de, df, dg, cW, cX, cY, cZ, c0, c3⟩
 obtain ⟨aB, aP, aG, rfl⟩ := aK.form
 obtain ⟨aU, bn, aW, rfl⟩ := bi.form
 obtain ⟨a66, aQ, aH, rfl⟩ := aL.form
 obtain ⟨aV, bo, aX, rfl⟩ := bj.form
 refine rk_ ad.wf [.slice none 0 0, .slice none 0 0, .slice none 0 0, .slice none 0 0] fun aC cM U ao cw => ?_
 have dx := (bj.ext U)
 have cD := (aL.ext U)
 have dy := (bi.ext U)
 have cE := (aK.ext U)
 obtain ⟨ah, cf, D, cx⟩ := ra_ 152 0 U.wf cw [.slice aB aP aG, .slice aU bn aW, .slice a66 aQ aH, .slice aV bo aX] [.slice aB aP aG, .slice aU bn aW, .slice a66 aQ aH, .slice aV bo aX]
 refine ek_ cf (Za (bY _ _ (sq_ fun b7 => g_' (q_ (.slice none 0 0) (Za (b7 _ _ (sq_ fun b8 => sq_ fun b9 => g_' (q_ (ar) ?_))))))))
 have bp := (t_ (t_ V.n ac.n) ad.n)
 have bz := (ao.djn (a7.lt.le bp))
 have bx := (((((a7.ext V).fr ac dn_).fr ad dn_).ext U).fr D bz)
 refine bx.ln_ 26 (q_ (i_ 0) (Za (b9 _ _ ?_)))
 obtain ⟨bq, bQ, cy⟩ := bs_ cv
 refine ZC (fun α ax => ∃ (aS : Value) (am : Fp), Has α [(16, aS)] /\ FrS [] ah ax /\ Ow (Zak .u64) 1 ax aS bq am /\ Inn [] ah am) (fun _ bU => ?_) (fun α ax hM => ?_)
 ·refine Zm ?_
  obtain ⟨bl, bP⟩ := Zu.1 bQ
  refine ZJ (fun n α aw => ∃ (aa : List (Int)), ∃ (e : Int), ∃ (aR : Value), ∃ (an : Fp), ZR (fun zz_ => Zbj goals Y zz_.1 zz_.2) n (aa, e) = some bq /\ Has α [(15, pt_ aC 0), (16, aR), (27, ar), (28, i_ (goals.length : Int)), (29, i_ e)] /\ FrS [] ah aw /\ Ow (Zak .u64) 1 aw aR aa an /\ Inn [] ah an) bl ⟨[], 0, (.slice none 0 0), [], bP, ha_, (fr_ D.wf), (Ow.nil (by decide)), in_⟩ ?_
  rintro bl α aw ⟨aa, e, aR, an, bO, a_, O, au, ag⟩ cO bf
  obtain ⟨bm, cF, rfl, af, aJ⟩ := Zy bO
  obtain ⟨β, rfl⟩ := Zk a_
  clear a_
  replace af : Zbj goals Y aa e = some cF := af
  unfold Zbj at af
  obtain ⟨ay, aM, aD, rfl⟩ := au.form
  refine sq_ fun bV => g_' (q_ (.bool (decide (e < (goals.length : Int)))) (Za (bV _ _ (sq_ fun bW => ?_))))
  refine wc_ (e < (goals.length : Int)) (fun ae => ?_) fun ae => ?_
  ·have ch := Ze ae af
   refine Zf (bW _ _ (sq_ fun bg => Zm (sq_ fun bX => g_' ?_)))
   obtain ⟨aZ, ci⟩ := Zb ch
   have bt := (bx.fr O dn_)
   refine bt.ix_ 26 aZ ae (le_ 3 0 (i_ (gt goals e)) bt aZ ae (q_ (i_ (gt goals e)) (Za (bX _ _ (sq_ fun bZ => g_' (q_ (pt_ aC 2) ?_))))))
   have bu := (cx.frS O dn_)
   refine lr_ 30 2 (.slice a66 aQ aH) bu (q_ (i_ (gt goals e)) ?_)
   obtain ⟨Z, br⟩ := Zb ci
   have bv := ((cD.fr D (ao.djn aL.lt)).fr O dn_)
   refine bv.sq.ix_ 30 Z.1 Z.2 (le_ 4 0 (.bool (gt Y.2.2.1 (gt goals e))) bv.sq Z.1 Z.2 (Za (bZ _ _ ?_)))
   refine wb_ ((gt Y.2.2.1 (gt goals e))) (fun aI => ?_) fun aI => ?_
   ·have cj := Ze aI br
    refine g_' (q_ (.slice ay aM aD) (q_ (pt_ aC 0) (lr_ 36 0 (.slice aB aP aG) bu (q_ (i_ (gt goals e)) ?_))))
    obtain ⟨a1, ck⟩ := Zb cj
    have bw := ((cE.fr D (ao.djn aK.lt)).fr O dn_)
    refine bw.sq.ix_ 36 Z.1 a1 (le_ 27 0 (.int .u64 (gt Y.1 (gt goals e))) bw.sq Z.1 a1 ?_)
    refine Zbl (enc := (Zak .u64)) (sz := 1) O.wf [(gt Y.1 (gt goals e))] 1 (by decide) (fun _ _ => rfl) (fun _ _ => rfl) rfl (by kernel_rfl) fun dm c4 cG ak da ba => ?_
    obtain ⟨cP, dh, cT, rfl⟩ := ba.form
    have cB := (au.ext ak)
    obtain ⟨bI, cm⟩ := Zb ck
    obtain ⟨dn, cH, bD, cd, bA, bb, bM⟩ := Ow.append (P := Tryz.prog) 8 ak.wf cB ba.sq (fun _ _ => rfl) (at_ := #[36, 36]) rfl rfl (by kernel_rfl) (by kernel_rfl) (by decide) (by have := bI; first | omega | (simp only [List.length_cons, List.length_nil] at this ⊢; omega) | (simp at this ⊢; omega))
    obtain ⟨az, aN, aE, rfl⟩ := bb.form
    refine ZaN (.slice az aN aE) (by kernel_rfl) (cd) ?_
    refine q_ (.slice az aN aE) (Za (bg _ _ (g_' ?_)))
    obtain ⟨bJ, cn⟩ := Zb cm
    refine w_' ((e + 1)) (Zn (by have := bJ; omega)) (q_ (i_ (e + 1)) (Za ?_))
    have b_ := (t_ O.n ak.n)
    obtain rfl := oi_ cn
    exact bf bm _ _ lt_ ⟨(aa ++ [(gt Y.1 (gt goals e))]), (e + 1), (.slice az aN aE), bD, aJ, ha_, (fs_ D.wf ((fs_ D.wf (fr_ D.wf) O in_).extR ak) bA (ag.fresh (Nat.le_refl _))), bb, (Inn.trans (ag.fresh (Nat.le_refl _)) b_ bM)⟩
   have co := ZL aI br
   refine g_' (q_ (.slice ay aM aD) ?_)
   refine Zbl (enc := (Zak .u64)) (sz := 1) O.wf [18446744073709551615] 1 (by decide) (fun _ _ => rfl) (fun _ _ => rfl) rfl (by kernel_rfl) fun dp c5 cI al db bc => ?_
   obtain ⟨cQ, di, cU, rfl⟩ := bc.form
   have cC := (au.ext al)
   obtain ⟨bK, cq⟩ := Zb co
   obtain ⟨dq, cJ, bE, ce, bB, bd, bN⟩ := Ow.append (P := Tryz.prog) 8 al.wf cC bc.sq (fun _ _ => rfl) (at_ := #[36, 36]) rfl rfl (by kernel_rfl) (by kernel_rfl) (by decide) (by have := bK; first | omega | (simp only [List.length_cons, List.length_nil] at this ⊢; omega) | (simp at this ⊢; omega))
   obtain ⟨aA, aO, aF, rfl⟩ := bd.form
   refine ZaN (.slice aA aO aF) (by kernel_rfl) (ce) ?_
   refine q_ (.slice aA aO aF) (Za (bg _ _ (g_' ?_)))
   obtain ⟨bL, cr⟩ := Zb cq
   refine w_' ((e + 1)) (Zn (by have := bL; omega)) (q_ (i_ (e + 1)) (Za ?_))
   have ca := (t_ O.n al.n)
   obtain rfl := oi_ cr
   exact bf bm _ _ lt_ ⟨(aa ++ [18446744073709551615]), (e + 1), (.slice aA aO aF), bE, aJ, ha_, (fs_ D.wf ((fs_ D.wf (fr_ D.wf) O in_).extR al) bB (ag.fresh (Nat.le_refl _))), bd, (Inn.trans (ag.fresh (Nat.le_refl _)) ca bN)⟩
  have cu := Zi ae af
  refine ZK (Zj (Zj (ZV ?_)))
  obtain rfl := oi_ cu
  obtain rfl := Zx aJ
  exact bU _ _ ⟨(.slice ay aM aD), an, ha_, (fs_ D.wf (fr_ D.wf) O in_), au, (ag.fresh (Nat.le_refl _))⟩
 obtain ⟨aS, am, a8, bC, bk, bT⟩ := hM
 obtain ⟨β, rfl⟩ := Zk a8
 clear a8
 obtain ⟨ai, av, aj, rfl⟩ := bk.form
 refine b8 _ _ (sq_ fun b5 => g_' (q_ (.slice ai av aj) (q_ (.slice ai av aj) (Za (b5 _ _ ?_)))))
 refine Zg ?_
 refine br_ [.slice ai av aj] ?_
 have cc := (t_ (t_ (t_ (t_ V.n ac.n) ad.n) U.n) D.n)
 obtain rfl := oi_ cy
 exact ⟨(.slice ai av aj), am, rfl, (fs_ ab (fs_ ab ((fs_ ab (fs_ ab ((f0_ ab).extR V) ac in_) ad in_).extR U) D (ao.fresh bp)) bC in_), bk, (bT.fresh cc)⟩
end Go.Vd

/-! (KSn9) -/

set_option maxRecDepth 100000
set_option maxHeartbeats 4000000
set_option linter.unusedVariables false
namespace Go.Vd
open Go.Proofs
attribute [local irreducible] Zp Zr aWp
theorem ZfO {H : AH} {ah : Value} {aI : Fp} {Y : Value} {aJ : Fp} {aj : List (Bool)} {Arcs : List (Int × Int × Int × Int)} {u : Int} {w : Int} {r : Int × Bool}
    (U : WF H) (aM : Sq ZaC 1 H ah aj aI) (ao : Sq Zo 4 H Y Arcs aJ) (ar : ZbC aj Arcs u w = some r) :
    ACalls Tryz.prog 77 #[.agg #[ah, Y], i_ u, i_ w] H fun v H' => v = .tuple #[.int .u64 r.1, .bool r.2] /\ FrS [] H H' := by
 refine ab_ Tryz.func77 ?_
 unfold ZbC at ar
 refine sq_ fun k1 => g_' ?_
 refine ZaG U [ah, Y] (Zs (aM.one1) (Zs (ao.one1) (Z1))) (by kernel_rfl) fun b2 am D bk a_ => ?_
 refine q_ (.int .u64 0) (q_ (.bool false) (Za (k1 _ _ (sq_ fun aY => sq_ fun aZ => g_' (q_ (pt_ b2 1) (lr_ 31 1 (Y) a_ ?_))))))
 have aE := (ao.ext D)
 refine aE.ln_ 31 (q_ (i_ 0) (Za (aZ _ _ ?_)))
 obtain ⟨aG, aQ, aB⟩ := bs_ ar
 refine ZC (fun α ak => ∃ aA, aG = Sum.inr aA /\ Has α [] /\ FrS [] am ak) (fun _ aS => ?_) (fun α ak hM => ?_)
 ·refine Zm ?_
  obtain ⟨ay, aO⟩ := Zu.1 aQ
  refine ZJ (fun n α al => ∃ (e : Int), ZR (fun zz_ => ZaT Arcs u w zz_) n e = some aG /\ Has α [(1, i_ u), (2, i_ w), (11, Y), (12, i_ (Arcs.length : Int)), (13, i_ e)] /\ FrS [] am al) ay ⟨0, aO, ha_, (fr_ D.wf)⟩ ?_
  rintro ay α al ⟨e, aN, aq, O⟩ bj av
  obtain ⟨az, bg, rfl, Z, ab⟩ := Zy aN
  obtain ⟨β, rfl⟩ := Zk aq
  clear aq
  replace Z : ZaT Arcs u w e = some bg := Z
  unfold ZaT at Z
  refine sq_ fun aT => g_' (q_ (.bool (decide (e < (Arcs.length : Int)))) (Za (aT _ _ (sq_ fun aU => ?_))))
  refine wc_ (e < (Arcs.length : Int)) (fun V => ?_) fun V => ?_
  ·have a6 := Ze V Z
   refine Zf (aU _ _ (sq_ fun aw => Zm (sq_ fun aV => g_' ?_)))
   obtain ⟨an, aC⟩ := Zb a6
   have aF := (aE.fr O dn_)
   refine aF.ix_ 31 an V (le_ 96 0 (.agg #[i_ ((gt Arcs e).1), i_ ((gt Arcs e).2.1), .int .u64 ((gt Arcs e).2.2.1), i_ ((gt Arcs e).2.2.2)]) aF an V ?_)
   refine rk_ O.wf [i_ 0, i_ 0, .int .u64 0, i_ 0] fun ac bh aa ag a7 => ?_
   obtain ⟨bi, a2, ad, ai⟩ := ra_ 96 0 aa.wf a7 [i_ ((gt Arcs e).1), i_ ((gt Arcs e).2.1), .int .u64 ((gt Arcs e).2.2.1), i_ ((gt Arcs e).2.2.2)] [i_ ((gt Arcs e).1), i_ ((gt Arcs e).2.1), .int .u64 ((gt Arcs e).2.2.1), i_ ((gt Arcs e).2.2.2)]
   refine ek_ a2 (Za (aV _ _ (sq_ fun ax => g_' (q_ (pt_ ac 0) (lr_ 3 0 (i_ ((gt Arcs e).1)) ai (q_ (i_ u) ?_))))))
   refine sb_ (((gt Arcs e).1) = u) (fun ae => ?_) fun ae => ?_
   ·have aD := Ze ae aC
    refine q_ (.bool true) (q_ (pt_ ac 1) (lr_ 3 1 (i_ ((gt Arcs e).2.1)) ai (q_ (i_ w) (q_ (.bool (decide (((gt Arcs e).2.1) = w))) (q_ (.bool (decide (((gt Arcs e).2.1) = w))) (Za (ax _ _ ?_)))))))
    refine wc_ (((gt Arcs e).2.1) = w) (fun af => ?_) fun af => ?_
    ·have a8 := Ze af aD
     refine sq_ fun aW => g_' (q_ (pt_ ac 2) (lr_ 27 2 (.int .u64 ((gt Arcs e).2.2.1)) ai (q_ (.int .u64 ((gt Arcs e).2.2.1)) (q_ (.bool true) (Za (aW _ _ ?_))))))
     refine Zg (ZN (Zh (Zh (ZN (Zh (Zh ?_))))))
     obtain ⟨v55, au, aR⟩ := map_some a8
     subst aR
     obtain rfl := Zx ab
     have aP := elim_inl aB
     rw [aP] at au
     refine br_ [.int .u64 ((gt Arcs e).2.2.1), .bool true] ?_
     have a1 := (t_ D.n O.n)
     obtain rfl := oi_ au
     exact ⟨rfl, (fs_ U ((fs_ U ((f0_ U).extR D) O in_).extR aa) ad (ag.fresh a1))⟩
    have ba := Zi af aD
    refine Zf (aw _ _ (g_' ?_))
    obtain ⟨aK, bb⟩ := Zb ba
    refine w_' ((e + 1)) (Zn (by have := aK; omega)) (q_ (i_ (e + 1)) (Za ?_))
    obtain rfl := oi_ bb
    exact av az _ _ lt_ ⟨(e + 1), ab, ha_, (fs_ D.wf ((fs_ D.wf (fr_ D.wf) O in_).extR aa) ad (ag.fresh O.n))⟩
   have bc := Zi ae aC
   refine q_ (.bool false) (n_' (n_' (n_' (n_' (q_ (.bool false) (Za (ax _ _ ?_)))))))
   refine wb_ false (fun h => by cases h) fun _ => ?_
   refine Zf (aw _ _ (g_' ?_))
   obtain ⟨aL, bd⟩ := Zb bc
   refine w_' ((e + 1)) (Zn (by have := aL; omega)) (q_ (i_ (e + 1)) (Za ?_))
   obtain rfl := oi_ bd
   exact av az _ _ lt_ ⟨(e + 1), ab, ha_, (fs_ D.wf ((fs_ D.wf (fr_ D.wf) O in_).extR aa) ad (ag.fresh O.n))⟩
  have be := Zi V Z
  refine ZK (Zj (Zj (ZV ?_)))
  obtain rfl := oi_ be
  obtain rfl := Zx ab
  exact aS _ _ ⟨_, rfl, trivial, (fs_ D.wf (fr_ D.wf) O in_)⟩
 obtain ⟨aA, rfl, ap, aH⟩ := hM
 have bf := elim_inr aB
 obtain ⟨β, rfl⟩ := Zk ap
 clear ap
 refine aY _ _ (sq_ fun aX => g_' (q_ (.int .u64 0) (q_ (.bool false) (Za (aX _ _ ?_)))))
 refine Zg ?_
 refine br_ [.int .u64 0, .bool false] ?_
 obtain rfl := oi_ bf
 exact ⟨rfl, (fs_ U ((f0_ U).extR D) aH in_)⟩
theorem ZfS {H : AH} {aC : Value} {ed : Fp} {aD : Value} {ee : Fp} {aF : List (Bool)} {Arcs : List (Int × Int × Int × Int)} {ae : Int} {bf : Int} {bg : Int} {ba : Int} {a8 : Int} {a_ : Int} {r : List (Int × Int × Int)}
    (a7 : WF H) (bz : Sq ZaC 1 H aC aF ed) (bA : Sq Zo 4 H aD Arcs ee) (cX : ZbA aF Arcs ae bf bg ba a8 a_ = some r) :
    ACalls Tryz.prog 53 #[.agg #[aC, aD], i_ ae, .agg #[i_ bf, i_ bg, i_ ba, i_ a8, i_ a_]] H fun v H' => ∃ (dr : Value) (cC : Fp), v = dr /\ FrS [] H H' /\ Ow ZB 3 H' dr r cC /\ Inn [] H cC := by
 refine ab_ Tryz.func53 ?_
 unfold ZbA at cX
 refine sq_ fun e8 => g_' ?_
 refine ZaG a7 [aC, aD] (Zs (bz.one1) (Zs (bA.one1) (Z1))) (by kernel_rfl) fun aI gQ aB g_ cn => ?_
 refine rl_ aB.wf [i_ bf, i_ bg, i_ ba, i_ a8, i_ a_] fun gZ gG an ha fO => ?_
 refine q_ (.slice none 0 0) (Za (e8 _ _ (sq_ fun eR => g_' (lr_ 53 0 (.agg #[i_ bf, i_ bg, i_ ba, i_ a8, i_ a_]) fO ?_))))
 obtain ⟨aa, eE, fS⟩ := bs_ cX
 refine ck_ (ZfA an.wf eE) ?_
 rintro _ gM ⟨rfl, ao⟩
 refine q_ (.tuple #[i_ aa.1, i_ aa.2]) (q_ (i_ aa.1) (q_ (i_ aa.2) (q_ (i_ aa.1) (q_ (i_ aa.2) (Za (eR _ _ (sq_ fun eU => g_' (q_ (.slice none 0 0) (Za (eU _ _ (sq_ fun eV => sq_ fun eW => g_' ?_)))))))))))
 have dD := ((cn.ext an).frS ao dn_)
 refine lr_ 33 0 (.agg #[aC, aD]) dD (q_ (i_ ae) ?_)
 have dE := (((bz.ext aB).ext an).fr ao dn_)
 have dG := (((bA.ext aB).ext an).fr ao dn_)
 obtain ⟨D, eG, f2⟩ := bs_ fS
 refine ck_ (ZeN ao.wf dE dG eG) ?_
 rintro hr be ⟨_, g8, rfl, ac, ce, hf⟩
 obtain ⟨aH, aQ, aJ, rfl⟩ := ce.form
 refine ce.sq.ln_ 132 (q_ (i_ 0) (Za (eW _ _ ?_)))
 obtain ⟨di, eC, gl⟩ := bs_ f2
 refine ZC (fun α bL => ∃ (cx : Value) (bw : Fp), Has α [(9, cx)] /\ FrS [] be bL /\ Ow ZB 3 bL cx di bw /\ Inn [] be bw) (fun _ e7 => ?_) (fun α bL hM => ?_)
 ·refine Zm ?_
  obtain ⟨dg, ez⟩ := Zu.1 eC
  refine ZJ (fun n α bM => ∃ (e : Int), ∃ (l7 : List (Int × Int × Int)), ∃ (cy : Value), ∃ (au : Fp), ZR (fun zz_ => ZaS aF Arcs ae aa D zz_.1 zz_.2) n (e, l7) = some di /\ Has α [(1, i_ ae), (3, pt_ aI 0), (7, i_ aa.1), (8, i_ aa.2), (9, cy), (30, .slice aH aQ aJ), (31, i_ (D.length : Int)), (32, i_ e)] /\ FrS [] be bM /\ Ow ZB 3 bM cy l7 au /\ Inn [] be au) dg ⟨0, [], (.slice none 0 0), [], ez, ha_, (fr_ ac.wf), (Ow.nil (by decide)), in_⟩ ?_
  rintro dg α bM ⟨e, l7, cy, au, ew, cQ, aj, aw, aO⟩ gV e9
  obtain ⟨fE, gF, rfl, aZ, cW⟩ := Zy ew
  obtain ⟨β, rfl⟩ := Zk cQ
  clear cQ
  replace aZ : ZaS aF Arcs ae aa D e l7 = some gF := aZ
  unfold ZaS at aZ
  obtain ⟨bk, bH, bp, rfl⟩ := aw.form
  refine sq_ fun e_ => g_' (q_ (.bool (decide (e < (D.length : Int)))) (Za (e_ _ _ (sq_ fun fa => ?_))))
  refine wc_ (e < (D.length : Int)) (fun aW => ?_) fun aW => ?_
  ·have gm := Ze aW aZ
   refine Zf (fa _ _ (sq_ fun fb => Zm (sq_ fun fc => g_' ?_)))
   obtain ⟨cH, gn⟩ := Zb gm
   have dL := (ce.fr aj dn_)
   refine dL.sq.ix_ 132 cH aW (le_ 134 0 (.agg #[i_ ((gt D e).1), .int .u64 ((gt D e).2.1), i_ ((gt D e).2.2)]) dL.sq cH aW ?_)
   refine rk_ aj.wf [i_ 0, .int .u64 0, i_ 0] fun al gR ap aN bI => ?_
   obtain ⟨gS, fK, af, dq⟩ := ra_ 134 0 ap.wf bI [i_ ((gt D e).1), .int .u64 ((gt D e).2.1), i_ ((gt D e).2.2)] [i_ ((gt D e).1), .int .u64 ((gt D e).2.1), i_ ((gt D e).2.2)]
   refine ek_ fK (Za (fc _ _ (sq_ fun fd => g_' (q_ (.slice none 0 0) (Za (fd _ _ (sq_ fun ff => g_' (q_ (.slice none 0 0) (Za (ff _ _ (sq_ fun fg => g_' (q_ (.int .u64 0) (Za (fg _ _ (sq_ fun fh => sq_ fun fj => g_' ?_)))))))))))))))
   have fF := (t_ (t_ (t_ an.n ao.n) ac.n) aj.n)
   have dR := (aN.djn (cn.ltF.le fF))
   have dt := ((((dD.frS ac dn_).frS aj dn_).ext ap).frS af dR)
   refine lr_ 33 0 (.agg #[aC, aD]) dt (q_ (i_ ae) ?_)
   have c9 := (t_ (t_ (t_ (t_ aB.n an.n) ao.n) ac.n) aj.n)
   have dS := (aN.djn (bz.lt.le c9))
   have du := ((((dE.fr ac dn_).fr aj dn_).ext ap).fr af dS)
   have dT := (aN.djn (bA.lt.le c9))
   have dv := ((((dG.fr ac dn_).fr aj dn_).ext ap).fr af dT)
   obtain ⟨Y, eD, fL⟩ := bs_ gn
   refine ck_ (Zc4 af.wf du dv eD) ?_
   rintro hk aG ⟨_, g4, rfl, Z, ca, he⟩
   obtain ⟨dN, fm, dP, rfl⟩ := ca.form
   refine ca.sq.ln_ 132 (q_ (i_ 0) (Za (fj _ _ ?_)))
   obtain ⟨U, eA, fM⟩ := bs_ fL
   refine ZC (fun α bb => ∃ (cp : Value) (bt : Fp) (cq : Value) (bu : Fp), Has α [(1, i_ ae), (3, pt_ aI 0), (7, i_ aa.1), (8, i_ aa.2), (9, .slice bk bH bp), (11, pt_ al 0), (12, cp), (13, cq), (14, .int .u64 U.2.2), (30, .slice aH aQ aJ), (31, i_ (D.length : Int)), (32, i_ e)] /\ FrS [] aG bb /\ Ow (Zak .i64) 1 bb cp U.1 bt /\ Ow (Zak .u64) 1 bb cq U.2.1 bu /\ Inn [] aG bt /\ Inn [] aG bu /\ Dj bt bu) (fun _ eM => ?_) (fun α bb hM => ?_)
   ·refine Zm ?_
    obtain ⟨c_, ex⟩ := Zu.1 eA
    refine ZJ (fun n α bc => ∃ (goals0 : List (Int)), ∃ (weights1 : List (Int)), ∃ (most2 : Int), ∃ (V : Int), ∃ (cr : Value), ∃ (aL : Fp), ∃ (cu : Value), ∃ (aM : Fp), ZR (fun zz_ => Zao D e Y zz_.1 zz_.2.1 zz_.2.2.1 zz_.2.2.2) n (goals0, weights1, most2, V) = some U /\ Has α [(1, i_ ae), (3, pt_ aI 0), (7, i_ aa.1), (8, i_ aa.2), (9, .slice bk bH bp), (11, pt_ al 0), (12, cr), (13, cu), (14, .int .u64 most2), (30, .slice aH aQ aJ), (31, i_ (D.length : Int)), (32, i_ e), (38, .slice dN fm dP), (39, i_ (Y.length : Int)), (40, i_ V)] /\ FrS [] aG bc /\ Ow (Zak .i64) 1 bc cr goals0 aL /\ Ow (Zak .u64) 1 bc cu weights1 aM /\ Inn [] aG aL /\ Inn [] aG aM /\ Dj aL aM) c_ ⟨[], [], 0, 0, (.slice none 0 0), [], (.slice none 0 0), [], ex, ha_, (fr_ Z.wf), (Ow.nil (by decide)), (Ow.nil (by decide)), in_, in_, dn_⟩ ?_
    rintro c_ α bc ⟨goals0, weights1, most2, V, cr, aL, cu, aM, eu, cL, ag, aE, az, a1, a2, bq⟩ gT c0
    obtain ⟨da, gD, rfl, aX, b9⟩ := Zy eu
    obtain ⟨β, rfl⟩ := Zk cL
    clear cL
    replace aX : Zao D e Y goals0 weights1 most2 V = some gD := aX
    unfold Zao at aX
    obtain ⟨bN, cf, bT, rfl⟩ := aE.form
    obtain ⟨bO, cg, bU, rfl⟩ := az.form
    refine sq_ fun eN => g_' (q_ (.bool (decide (V < (Y.length : Int)))) (Za (eN _ _ (sq_ fun eO => ?_))))
    refine wc_ (V < (Y.length : Int)) (fun aU => ?_) fun aU => ?_
    ·have fN := Ze aU aX
     refine Zf (eO _ _ (sq_ fun c3 => Zm (sq_ fun eP => g_' ?_)))
     obtain ⟨cD, dk⟩ := Zb fN
     have dw := (ca.fr ag dn_)
     refine dw.sq.ix_ 132 cD aU (le_ 134 0 (.agg #[i_ ((gt Y V).1), .int .u64 ((gt Y V).2.1), i_ ((gt Y V).2.2)]) dw.sq cD aU ?_)
     refine rk_ ag.wf [i_ 0, .int .u64 0, i_ 0] fun bl gH ah av fP => ?_
     obtain ⟨gI, fG, ai, co⟩ := ra_ 134 0 ah.wf fP [i_ ((gt Y V).1), .int .u64 ((gt Y V).2.1), i_ ((gt Y V).2.2)] [i_ ((gt Y V).1), .int .u64 ((gt Y V).2.1), i_ ((gt Y V).2.2)]
     refine ek_ fG (Za (eP _ _ (sq_ fun eQ => g_' (q_ (pt_ bl 0) (lr_ 3 0 (i_ ((gt Y V).1)) co (q_ (pt_ al 0) ?_))))))
     have fo := (t_ (t_ af.n Z.n) ag.n)
     have dU := (av.djn (bI.ltF.le fo))
     have dx := ((((dq.frS Z dn_).frS ag dn_).ext ah).frS ai dU)
     refine lr_ 3 0 (i_ ((gt D e).1)) dx (q_ (.bool (!decide (((gt Y V).1) = ((gt D e).1)))) (Za (eQ _ _ ?_)))
     refine Zde (((gt Y V).1) = ((gt D e).1)) (by kernel_rfl) rfl (fun bZ => ?_) (fun bZ => ?_)
     ·have fQ := Zi bZ dk
      refine sq_ fun eS => g_' (q_ (.slice bN cf bT) (q_ (pt_ bl 0) (lr_ 3 0 (i_ ((gt Y V).1)) co ?_)))
      refine Zbl (enc := (Zak .i64)) (sz := 1) ai.wf [(gt Y V).1] 1 (by decide) (fun _ _ => rfl) (fun _ _ => rfl) rfl (by kernel_rfl) fun hl g5 gJ aq hb cR => ?_
      obtain ⟨gW, hg, g0, rfl⟩ := cR.form
      have go := (((aE.ext ah).fr ai (av.djn aE.lt)).ext aq)
      obtain ⟨ef, fR⟩ := Zb fQ
      obtain ⟨hm, gK, ea, fH, aK, b8, cI⟩ := Ow.append (P := Tryz.prog) 8 aq.wf go cR.sq (fun _ _ => rfl) (at_ := #[26, 26]) rfl rfl (by kernel_rfl) (by kernel_rfl) (by decide) (by have := ef; first | omega | (simp only [List.length_cons, List.length_nil] at this ⊢; omega) | (simp at this ⊢; omega))
      obtain ⟨bP, ch, bV, rfl⟩ := b8.form
      refine ZaN (.slice bP ch bV) (by kernel_rfl) (fH) ?_
      refine q_ (.slice bP ch bV) (Za (eS _ _ (sq_ fun eT => g_' (q_ (.slice bO cg bU) (q_ (pt_ bl 1) ?_)))))
      have dV := (av.djn aE.lt)
      have dy := ((co.ext aq).frS aK (Dj.symm dV))
      refine lr_ 27 1 (.int .u64 ((gt Y V).2.1)) dy ?_
      refine Zbl (enc := (Zak .u64)) (sz := 1) aK.wf [(gt Y V).2.1] 1 (by decide) (fun _ _ => rfl) (fun _ _ => rfl) rfl (by kernel_rfl) fun hn g6 gL ax hc cS => ?_
      obtain ⟨gX, hh, g1, rfl⟩ := cS.form
      have gp := (((((az.ext ah).fr ai (av.djn az.lt)).ext aq).fr aK bq).ext ax)
      obtain ⟨eh, fT⟩ := Zb fR
      obtain ⟨ho, gN, eb, fI, br, cT, cJ⟩ := Ow.append (P := Tryz.prog) 8 ax.wf gp cS.sq (fun _ _ => rfl) (at_ := #[36, 36]) rfl rfl (by kernel_rfl) (by kernel_rfl) (by decide) (by have := eh; first | omega | (simp only [List.length_cons, List.length_nil] at this ⊢; omega) | (simp at this ⊢; omega))
      obtain ⟨bQ, ci, bW, rfl⟩ := cT.form
      refine ZaN (.slice bQ ci bW) (by kernel_rfl) (fI) ?_
      refine q_ (.slice bQ ci bW) (Za (eT _ _ (g_' (q_ (.int .u64 most2) (q_ (pt_ al 1) ?_)))))
      have db := (t_ af.n Z.n)
      have dW := (a1.djn (bI.ltF.le db))
      have dX := (a2.djn (bI.ltF.le db))
      have gq := ((((dx.ext aq).frS aK dW).ext ax).frS br dX)
      refine lr_ 27 1 (.int .u64 ((gt D e).2.1)) gq (q_ (pt_ bl 1) ?_)
      have dY := (av.djn az.lt)
      have gr := ((dy.ext ax).frS br (Dj.symm dY))
      refine lr_ 27 1 (.int .u64 ((gt Y V).2.1)) gr ?_
      obtain ⟨ej, fU⟩ := Zb fT
      refine s_w ((((gt D e).2.1) + ((gt Y V).2.1))) (k := .u64) (x := (((gt D e).2.1) + ((gt Y V).2.1))) (by kernel_rfl) (Zdw ej) ?_
      refine l_' (.int .u64 (max most2 (((gt D e).2.1) + ((gt Y V).2.1)))) (Zfx Tryz.prog [.int .u64 most2, .int .u64 (((gt D e).2.1) + ((gt Y V).2.1))]) (ZeV _ _) (q_ (.int .u64 (max most2 (((gt D e).2.1) + ((gt Y V).2.1)))) (Za (c3 _ _ (g_' ?_))))
      obtain ⟨ek, fV⟩ := Zb fU
      refine w_' ((V + 1)) (Zn (by have := ek; omega)) (q_ (i_ (V + 1)) (Za ?_))
      have fu := (t_ (t_ ah.n ai.n) aq.n)
      have cB := (cI.dj bq (az.lt.le fu))
      have gs := ((b8.ext ax).fr br (Dj.symm cB))
      have fv := (t_ (t_ (t_ ag.n ah.n) ai.n) aq.n)
      have fw := (t_ (t_ (t_ (t_ (t_ ag.n ah.n) ai.n) aq.n) aK.n) ax.n)
      have dZ := (cJ.dj (Dj.symm cB) (b8.lt.le ax.n))
      obtain rfl := oi_ fV
      exact c0 da _ _ lt_ ⟨(goals0 ++ [(gt Y V).1]), (weights1 ++ [(gt Y V).2.1]), (max most2 (((gt D e).2.1) + ((gt Y V).2.1))), (V + 1), (.slice bP ch bV), ea, (.slice bQ ci bW), eb, b9, ha_, (fs_ Z.wf ((fs_ Z.wf ((fs_ Z.wf ((fs_ Z.wf (fr_ Z.wf) ag in_).extR ah) ai (av.fresh ag.n)).extR aq) aK (a1.fresh (Nat.le_refl _))).extR ax) br (a2.fresh (Nat.le_refl _))), gs, cT, (Inn.trans (a1.fresh (Nat.le_refl _)) fv cI), (Inn.trans (a2.fresh (Nat.le_refl _)) fw cJ), (Dj.symm dZ)⟩
     have fW := Ze bZ dk
     refine Zf (c3 _ _ (g_' ?_))
     obtain ⟨el, fX⟩ := Zb fW
     refine w_' ((V + 1)) (Zn (by have := el; omega)) (q_ (i_ (V + 1)) (Za ?_))
     have gu := ((aE.ext ah).fr ai (av.djn aE.lt))
     have gv := ((az.ext ah).fr ai (av.djn az.lt))
     obtain rfl := oi_ fX
     exact c0 da _ _ lt_ ⟨goals0, weights1, most2, (V + 1), (.slice bN cf bT), aL, (.slice bO cg bU), aM, b9, ha_, (fs_ Z.wf ((fs_ Z.wf (fr_ Z.wf) ag in_).extR ah) ai (av.fresh ag.n)), gu, gv, (a1.fresh (Nat.le_refl _)), (a2.fresh (Nat.le_refl _)), bq⟩
    have fY := Zi aU aX
    refine ZK (Zj (Zj (ZV ?_)))
    obtain rfl := oi_ fY
    obtain rfl := Zx b9
    exact eM _ _ ⟨(.slice bN cf bT), aL, (.slice bO cg bU), aM, ha_, (fs_ Z.wf (fr_ Z.wf) ag in_), aE, az, (a1.fresh (Nat.le_refl _)), (a2.fresh (Nat.le_refl _)), bq⟩
   obtain ⟨cp, bt, cq, bu, cK, am, cc, c6, eI, eJ, g3⟩ := hM
   obtain ⟨β, rfl⟩ := Zk cK
   clear cK
   obtain ⟨bh, bE, bm, rfl⟩ := cc.form
   obtain ⟨bR, cj, bX, rfl⟩ := c6.form
   refine fh _ _ (sq_ fun eX => g_' ?_)
   have dz := ((dt.frS Z dn_).frS am dn_)
   refine lr_ 33 0 (.agg #[aC, aD]) dz (q_ (pt_ al 0) ?_)
   have dA := ((dq.frS Z dn_).frS am dn_)
   refine lr_ 3 0 (i_ ((gt D e).1)) dA (q_ (i_ ae) (q_ (.slice bh bE bm) (q_ (.int .u64 U.2.2) (q_ (i_ aa.1) (q_ (i_ aa.2) ?_)))))
   have dB := ((du.fr Z dn_).fr am dn_)
   have dC := ((dv.fr Z dn_).fr am dn_)
   obtain ⟨aA, eF, fZ⟩ := bs_ fM
   refine ck_ (Zgj am.wf dB dC cc.sq eF) ?_
   rintro hq bd ⟨_, g7, rfl, ab, cd, cZ⟩
   obtain ⟨aR, a6, aS, rfl⟩ := cd.form
   refine q_ (.slice aR a6 aS) (Za (eX _ _ (sq_ fun eY => g_' (q_ (.slice bh bE bm) ?_))))
   have dF := (cc.fr ab dn_)
   refine dF.sq.ln_ 26 (q_ (i_ 0) (Za (eY _ _ ?_)))
   obtain ⟨cm, eB, f0⟩ := bs_ fZ
   refine ZC (fun α bJ => ∃ (cv : Value) (bv : Fp), Has α [(1, i_ ae), (3, pt_ aI 0), (7, i_ aa.1), (8, i_ aa.2), (9, cv), (30, .slice aH aQ aJ), (31, i_ (D.length : Int)), (32, i_ e)] /\ FrS au bd bJ /\ Ow ZB 3 bJ cv cm bv /\ Inn au bd bv) (fun _ eZ => ?_) (fun α bJ hM => ?_)
   ·refine Zm ?_
    obtain ⟨dc, ey⟩ := Zu.1 eB
    have gw := (((((aw.ext ap).fr af (aN.djn aw.lt)).fr Z dn_).fr am dn_).fr ab dn_)
    refine ZJ (fun n α bK => ∃ (O : Int), ∃ (aP : List (Int × Int × Int)), ∃ (cw : Value), ∃ (aT : Fp), ZR (fun zz_ => Zas aF Arcs D e U aA zz_.1 zz_.2) n (O, aP) = some cm /\ Has α [(1, i_ ae), (3, pt_ aI 0), (7, i_ aa.1), (8, i_ aa.2), (9, cw), (11, pt_ al 0), (13, .slice bR cj bX), (17, .slice aR a6 aS), (30, .slice aH aQ aJ), (31, i_ (D.length : Int)), (32, i_ e), (76, .slice bh bE bm), (77, i_ (U.1.length : Int)), (78, i_ O)] /\ FrS au bd bK /\ Ow ZB 3 bK cw aP aT /\ Inn au bd aT) dc ⟨0, l7, (.slice bk bH bp), au, ey, ha_, (fr_ ab.wf), gw, ir_⟩ ?_
    rintro dc α bK ⟨O, aP, cw, aT, ev, cN, ad, bD, bB⟩ gU c4
    obtain ⟨dd, gE, rfl, aY, b_⟩ := Zy ev
    obtain ⟨β, rfl⟩ := Zk cN
    clear cN
    replace aY : Zas aF Arcs D e U aA O aP = some gE := aY
    unfold Zas at aY
    obtain ⟨bi, bF, bn, rfl⟩ := bD.form
    refine sq_ fun e0 => g_' (q_ (.bool (decide (O < (U.1.length : Int)))) (Za (e0 _ _ (sq_ fun e1 => ?_))))
    refine wc_ (O < (U.1.length : Int)) (fun aV => ?_) fun aV => ?_
    ·have f1 := Ze aV aY
     refine Zf (e1 _ _ (sq_ fun c5 => Zm (sq_ fun e2 => g_' (q_ (i_ O) ?_))))
     obtain ⟨ay, f3⟩ := Zb f1
     have de := (t_ (t_ ap.n af.n) Z.n)
     have d0 := (eI.djn (aw.lt.le de))
     have dH := (dF.fr ad (Dj.symm d0))
     refine dH.sq.ix_ 26 ay aV (le_ 3 0 (i_ (gt U.1 O)) dH.sq ay aV (q_ (i_ O) (q_ (i_ (gt U.1 O)) (Za (e2 _ _ (sq_ fun e3 => ?_))))))
     refine ZQ [0, 1, 2, 3, 4, 5, 6, 7] (by kernel_rfl) ?_
     refine e_' (pt_ al 1) ?_
     have d1 := (aN.djn aw.lt)
     have cz := ((dA.frS ab dn_).frS ad (Dj.symm d1))
     refine mr_ 27 1 (.int .u64 ((gt D e).2.1)) cz (e_' (.slice bR cj bX) (e_' (i_ O) ?_))
     obtain ⟨cE, f4⟩ := Zb f3
     have d2 := (eJ.djn (aw.lt.le de))
     have dI := ((c6.fr ab dn_).fr ad (Dj.symm d2))
     refine dI.sq.mx_ 36 ay cE (me_ 27 0 (.int .u64 (gt U.2.1 O)) dI.sq ay cE ?_)
     obtain ⟨em, f5⟩ := Zb f4
     refine d_w ((((gt D e).2.1) + (gt U.2.1 O))) (k := .u64) (x := (((gt D e).2.1) + (gt U.2.1 O))) (by kernel_rfl) (Zdw em) ?_
     refine e_' (.int .u64 (((gt D e).2.1) + (gt U.2.1 O))) ?_
     refine ZI ?_
     refine e3 _ _ (sq_ fun e4 => g_' ?_)
     have fx := (t_ (t_ an.n ao.n) ac.n)
     have d3 := (aO.djn (cn.ltF.le fx))
     have gx := ((dz.frS ab dn_).frS ad d3)
     refine lr_ 33 0 (.agg #[aC, aD]) gx (q_ (pt_ al 0) (lr_ 3 0 (i_ ((gt D e).1)) cz (q_ (i_ (gt U.1 O)) ?_)))
     have df := (t_ (t_ (t_ aB.n an.n) ao.n) ac.n)
     have d4 := (aO.djn (bz.lt.le df))
     have gy := ((dB.fr ab dn_).fr ad d4)
     have d5 := (aO.djn (bA.lt.le df))
     have gz := ((dC.fr ab dn_).fr ad d5)
     obtain ⟨ak, eH, f7⟩ := bs_ f5
     refine ck_ (ZfO ad.wf gy gz eH) ?_
     rintro _ dM ⟨rfl, ar⟩
     refine q_ (.tuple #[.int .u64 ak.1, .bool ak.2]) (q_ (.int .u64 ak.1) (q_ (.bool ak.2) (q_ (.int .u64 ak.1) (q_ (.bool ak.2) (Za (e4 _ _ (sq_ fun e5 => ?_)))))))
     obtain ⟨dh, cY, dm⟩ := bs_ f7
     refine ZC (fun α cA => Has α [(1, i_ ae), (3, pt_ aI 0), (7, i_ aa.1), (8, i_ aa.2), (9, .slice bi bF bn), (11, pt_ al 0), (13, .slice bR cj bX), (17, .slice aR a6 aS), (19, i_ (gt U.1 O)), (20, .int .u64 (((gt D e).2.1) + (gt U.2.1 O))), (30, .slice aH aQ aJ), (31, i_ (D.length : Int)), (32, i_ e), (76, .slice bh bE bm), (77, i_ (U.1.length : Int)), (78, i_ O), (116, .bool dh)] /\ dM = cA) (fun _ bC => ?_) (fun α cA hM => ?_)
     ·refine g_' (q_ (.int .u64 (((gt D e).2.1) + (gt U.2.1 O))) ?_)
      refine sb_ ((((gt D e).2.1) + (gt U.2.1 O)) ≤ 140737488355328) (fun b5 => ?_) fun b5 => ?_
      ·have dn := Ze b5 cY
       refine q_ (.bool true) (q_ (.bool ak.2) (q_ (.bool ak.2) ?_))
       by_cases bx : ak.2 = true
       ·have dp := Ze bx dn
        rw [bx]
        refine q_ (.int .u64 ak.1) (q_ (.int .u64 (((gt D e).2.1) + (gt U.2.1 O))) ?_)
        refine sb_ (ak.1 ≤ (((gt D e).2.1) + (gt U.2.1 O))) (fun b6 => ?_) fun b6 => ?_
        ·have f8 := Ze b6 dp
         refine q_ (.bool true) (q_ (.bool false) (q_ (.bool false) (q_ (.bool false) (n_' (n_' (n_' (n_' (n_' (n_' (q_ (.bool false) (Za ?_)))))))))))
         obtain rfl := oi_ f8
         exact bC _ _ ⟨ha_, rfl⟩
        have f9 := Zi b6 dp
        refine q_ (.bool false) (q_ (.bool true) (q_ (.bool true) (q_ (.bool true) (q_ (.slice aR a6 aS) (q_ (i_ O) ?_)))))
        obtain ⟨cF, f_⟩ := Zb f9
        have fy := (t_ (t_ (t_ ap.n af.n) Z.n) am.n)
        have d6 := (cZ.djn (aw.lt.le fy))
        have dJ := ((cd.fr ad (Dj.symm d6)).fr ar dn_)
        refine dJ.sq.ix_ 36 ay cF (le_ 27 0 (.int .u64 (gt aA O)) dJ.sq ay cF (q_ (.int .u64 (((gt D e).2.1) + (gt U.2.1 O))) (q_ (.bool (decide ((gt aA O) > (((gt D e).2.1) + (gt U.2.1 O))))) (q_ (.bool (decide ((gt aA O) > (((gt D e).2.1) + (gt U.2.1 O))))) (Za ?_)))))
        obtain rfl := oi_ f_
        exact bC _ _ ⟨ha_, rfl⟩
       have ga := Zi bx dn
       rw [nb bx]
       refine n_' (n_' (n_' (q_ (.bool false) (q_ (.bool true) (q_ (.bool true) (q_ (.bool true) (q_ (.slice aR a6 aS) (q_ (i_ O) ?_))))))))
       obtain ⟨cG, gb⟩ := Zb ga
       have fz := (t_ (t_ (t_ ap.n af.n) Z.n) am.n)
       have d7 := (cZ.djn (aw.lt.le fz))
       have dK := ((cd.fr ad (Dj.symm d7)).fr ar dn_)
       refine dK.sq.ix_ 36 ay cG (le_ 27 0 (.int .u64 (gt aA O)) dK.sq ay cG (q_ (.int .u64 (((gt D e).2.1) + (gt U.2.1 O))) (q_ (.bool (decide ((gt aA O) > (((gt D e).2.1) + (gt U.2.1 O))))) (q_ (.bool (decide ((gt aA O) > (((gt D e).2.1) + (gt U.2.1 O))))) (Za ?_)))))
       obtain rfl := oi_ gb
       exact bC _ _ ⟨ha_, rfl⟩
      have gc := Zi b5 cY
      refine q_ (.bool false) (n_' (n_' (n_' (n_' (n_' (n_' (n_' (q_ (.bool false) (q_ (.bool false) (n_' (n_' (n_' (n_' (n_' (n_' (q_ (.bool false) (Za ?_)))))))))))))))))
      obtain rfl := oi_ gc
      exact bC _ _ ⟨ha_, rfl⟩
     obtain ⟨cO, rfl⟩ := hM
     obtain ⟨β, rfl⟩ := Zk cO
     clear cO
     refine e5 _ _ ?_
     refine wb_ (dh) (fun b7 => ?_) fun b7 => ?_
     ·have gd := Ze b7 dm
      refine g_' (q_ (.slice bi bF bn) (q_ (pt_ al 0) ?_))
      have gA := (cz.frS ar dn_)
      refine lr_ 3 0 (i_ ((gt D e).1)) gA (q_ (i_ (gt U.1 O)) (q_ (.int .u64 (((gt D e).2.1) + (gt U.2.1 O))) (q_ (.agg #[i_ ((gt D e).1), i_ (gt U.1 O), .int .u64 (((gt D e).2.1) + (gt U.2.1 O))]) ?_)))
      refine Zbl (enc := ZB) (sz := 3) ar.wf [((gt D e).1, (gt U.1 O), (((gt D e).2.1) + (gt U.2.1 O)))] 1 (by decide) (fun _ _ => rfl) (fun _ _ => rfl) rfl (by kernel_rfl) fun ht g9 gO bs hd cU => ?_
      obtain ⟨gY, hj, g2, rfl⟩ := cU.form
      have gB := ((bD.fr ar dn_).ext bs)
      obtain ⟨eo, ge⟩ := Zb gd
      obtain ⟨hu, gP, ec, fJ, d9, cV, et⟩ := Ow.append (P := Tryz.prog) 24 bs.wf gB cU.sq (fun _ _ => rfl) (at_ := #[57, 57]) rfl rfl (by kernel_rfl) (by kernel_rfl) (by decide) (by have := eo; first | omega | (simp only [List.length_cons, List.length_nil] at this ⊢; omega) | (simp at this ⊢; omega))
      obtain ⟨bS, ck, bY, rfl⟩ := cV.form
      refine ZaN (.slice bS ck bY) (by kernel_rfl) (fJ) ?_
      refine q_ (.slice bS ck bY) (Za (c5 _ _ (g_' ?_)))
      obtain ⟨ep, gf⟩ := Zb ge
      refine w_' ((O + 1)) (Zn (by have := ep; omega)) (q_ (i_ (O + 1)) (Za ?_))
      have fA := (t_ (t_ ad.n ar.n) bs.n)
      obtain rfl := oi_ gf
      exact c4 dd _ _ lt_ ⟨(O + 1), (aP ++ [((gt D e).1, (gt U.1 O), (((gt D e).2.1) + (gt U.2.1 O)))]), (.slice bS ck bY), ec, b_, ha_, (fs_ ab.wf ((fs_ ab.wf (fs_ ab.wf (fr_ ab.wf) ad ir_) ar in_).extR bs) d9 (Inn.trans ir_ (Nat.le_refl _) bB)), cV, (Inn.trans (Inn.trans ir_ (Nat.le_refl _) bB) fA et)⟩
     have gg := ZL b7 dm
     refine Zf (c5 _ _ (g_' ?_))
     obtain ⟨eq, gh⟩ := Zb gg
     refine w_' ((O + 1)) (Zn (by have := eq; omega)) (q_ (i_ (O + 1)) (Za ?_))
     have gC := (bD.fr ar dn_)
     obtain rfl := oi_ gh
     exact c4 dd _ _ lt_ ⟨(O + 1), aP, (.slice bi bF bn), aT, b_, ha_, (fs_ ab.wf (fs_ ab.wf (fr_ ab.wf) ad ir_) ar in_), gC, (Inn.trans ir_ (Nat.le_refl _) bB)⟩
    have gi := Zi aV aY
    refine ZK (Zj (Zj (ZV ?_)))
    obtain rfl := oi_ gi
    obtain rfl := Zx b_
    exact eZ _ _ ⟨(.slice bi bF bn), aT, ha_, (fs_ ab.wf (fr_ ab.wf) ad ir_), bD, (Inn.trans ir_ (Nat.le_refl _) bB)⟩
   obtain ⟨cv, bv, cM, d8, c7, eK⟩ := hM
   obtain ⟨β, rfl⟩ := Zk cM
   clear cM
   obtain ⟨dO, fB, dQ, rfl⟩ := c7.form
   refine fb _ _ (g_' ?_)
   obtain ⟨es, gj⟩ := Zb f0
   refine w_' ((e + 1)) (Zn (by have := es; omega)) (q_ (i_ (e + 1)) (Za ?_))
   have fC := (t_ (t_ (t_ (t_ (t_ aj.n ap.n) af.n) Z.n) am.n) ab.n)
   obtain rfl := oi_ gj
   exact e9 fE _ _ lt_ ⟨(e + 1), cm, (.slice dO fB dQ), bv, cW, ha_, (fs_ ac.wf (fs_ ac.wf (fs_ ac.wf (fs_ ac.wf (fs_ ac.wf ((fs_ ac.wf (fr_ ac.wf) aj in_).extR ap) af (aN.fresh aj.n)) Z in_) am in_) ab in_) d8 (aO.fresh (Nat.le_refl _))), c7, (Inn.trans (aO.fresh (Nat.le_refl _)) fC eK)⟩
  have gk := Zi aW aZ
  refine ZK (Zj (Zj (ZV ?_)))
  obtain rfl := oi_ gk
  obtain rfl := Zx cW
  exact e7 _ _ ⟨(.slice bk bH bp), au, ha_, (fs_ ac.wf (fr_ ac.wf) aj in_), aw, (aO.fresh (Nat.le_refl _))⟩
 obtain ⟨cx, bw, cP, d_, c8, eL⟩ := hM
 obtain ⟨β, rfl⟩ := Zk cP
 clear cP
 obtain ⟨bj, bG, bo, rfl⟩ := c8.form
 refine eV _ _ (sq_ fun e6 => g_' (q_ (.slice bj bG bo) (q_ (.slice bj bG bo) (Za (e6 _ _ ?_)))))
 refine Zg ?_
 refine br_ [.slice bj bG bo] ?_
 have fD := (t_ (t_ (t_ aB.n an.n) ao.n) ac.n)
 obtain rfl := oi_ gl
 exact ⟨(.slice bj bG bo), bw, rfl, (fs_ a7 (fs_ a7 (fs_ a7 (((f0_ a7).extR aB).extR an) ao in_) ac in_) d_ in_), c8, (eL.fresh fD)⟩
theorem ZdK {H : AH} {Y : Value} {aL : Fp} {Z : Value} {aM : Fp} {ao : List (Bool)} {Arcs : List (Int × Int × Int × Int)} {af : Int} {ad : Int} {ae : Int} {ac : Int} {aa : Int} {ab : Int} {r : List (Int × Int × Int) × Int}
    (O : WF H) (au : Sq ZaC 1 H Y ao aL) (av : Sq Zo 4 H Z Arcs aM) (ax : Zap ao Arcs af ad ae ac aa ab = some r) :
    ACalls Tryz.prog 20 #[.agg #[Y, Z], i_ af, .agg #[i_ ad, i_ ae, i_ ac, i_ aa, i_ ab]] H fun v H' => ∃ (aB : Value) (ar : Fp), v = .tuple #[aB, .agg #[i_ r.2, .slice none 0 0]] /\ FrS [] H H' /\ Ow ZB 3 H' aB r.1 ar /\ Inn [] H ar := by
 refine ab_ Tryz.func20 ?_
 unfold Zap at ax
 refine sq_ fun aU => g_' ?_
 refine ZaG O [Y, Z] (Zs (au.one1) (Zs (av.one1) (Z1))) (by kernel_rfl) fun bq bo V br a1 => ?_
 refine rl_ V.wf [i_ ad, i_ ae, i_ ac, i_ aa, i_ ab] fun bp bj D bs a2 => ?_
 refine q_ (.slice none 0 0) ?_
 refine rk_ D.wf [i_ 0, .slice none 0 0] fun ap bk U aw am => ?_
 refine Za (aU _ _ (sq_ fun aQ => sq_ fun aR => g_' ?_))
 have aC := ((a1.ext D).ext U)
 refine lr_ 33 0 (.agg #[Y, Z]) aC (q_ (i_ af) ?_)
 have aD := (((au.ext V).ext D).ext U)
 have aE := (((av.ext V).ext D).ext U)
 obtain ⟨aF, aN, aA⟩ := bs_ ax
 refine ck_ (ZcI U.wf aD aE aN) ?_
 rintro _ bl ⟨rfl, e⟩
 refine q_ (.bool (!aF)) (Za (aR _ _ ?_))
 refine wb_ ((!aF)) (fun ak => ?_) fun ak => ?_
 ·have a6 := Ze ak aA
  refine sq_ fun aS => g_' ?_
  obtain ⟨an, aO, a7⟩ := bs_ a6
  refine ck_ (ZaW e.wf aO) ?_
  rintro _ bm ⟨rfl, ai⟩
  refine q_ (.slice none 0 0) ?_
  have bc := ((am.frS e dn_).frS ai dn_)
  obtain ⟨aG, aY, aJ, a8⟩ := ra_ 44 0 ai.wf bc [i_ an, .slice none 0 0] [i_ an, .slice none 0 0]
  refine ek_ aY (Za (aS _ _ ?_))
  refine Zg (Zh ?_)
  refine Z3 (vs := [.slice none 0 0, .agg #[i_ an, .slice none 0 0]]) (ZbU (by kernel_rfl) (ZM (Eq.trans (b := aL_ 44 (pt_ ap 0) aG) (by kernel_rfl) (a8.l_)) (rfl))) ?_
  have aV := (t_ V.n D.n)
  obtain rfl := oi_ a7
  exact ⟨(.slice none 0 0), [], rfl, (fs_ O (fs_ O (fs_ O ((((f0_ O).extR V).extR D).extR U) e in_) ai in_) aJ (aw.fresh aV)), (Ow.nil (by decide)), in_⟩
 have a_ := ZL ak aA
 refine Zf (aQ _ _ (sq_ fun aT => g_' ?_))
 have bd := (aC.frS e dn_)
 refine lr_ 33 0 (.agg #[Y, Z]) bd (q_ (i_ af) ?_)
 have be := ((a2.ext U).frS e dn_)
 refine lr_ 53 0 (.agg #[i_ ad, i_ ae, i_ ac, i_ aa, i_ ab]) be ?_
 have bf := (aD.fr e dn_)
 have bg := (aE.fr e dn_)
 obtain ⟨bu, aP, ba⟩ := bs_ a_
 refine ck_ (ZfS e.wf bf bg aP) ?_
 rintro bt bn ⟨_, aK, rfl, aj, az, ay⟩
 obtain ⟨ag, al, ah, rfl⟩ := az.form
 refine q_ (.agg #[i_ 0, .slice none 0 0]) (q_ (.slice ag al ah) ?_)
 have bh := ((am.frS e dn_).frS aj dn_)
 obtain ⟨aH, aZ, aq, bb⟩ := ra_ 44 0 aj.wf bh [i_ 0, .slice none 0 0] [i_ 0, .slice none 0 0]
 refine ek_ aZ (Za (aT _ _ ?_))
 refine Zg ?_
 refine Z3 (vs := [.slice ag al ah, .agg #[i_ 0, .slice none 0 0]]) (ZbU (by kernel_rfl) (ZM (Eq.trans (b := aL_ 44 (pt_ ap 0) aH) (by kernel_rfl) (bb.l_)) (rfl))) ?_
 have aW := (t_ V.n D.n)
 have aI := (ay.djn (am.ltF.le e.n))
 have bi := (az.fr aq (Dj.symm aI))
 have aX := (t_ (t_ (t_ V.n D.n) U.n) e.n)
 obtain rfl := oi_ ba
 exact ⟨(.slice ag al ah), aK, rfl, (fs_ O (fs_ O (fs_ O ((((f0_ O).extR V).extR D).extR U) e in_) aj in_) aq (aw.fresh aW)), bi, (ay.fresh aX)⟩
theorem ZeE {H : AH} {aC : Value} {aP : Fp} {ar : Value} {ce : Fp} {ah : Er} {ad : Int} {U : List (Int × Int)} {r : Bool}
    (e : WF H) (am : Ev 78 116 H aC ah aP) (bb : Sq Zav 2 H ar U ce) (bi : Zax ah ad U = some r) :
    ACalls Tryz.prog 13 #[aC, .agg #[i_ ad, ar]] H fun v H' => v = .bool r /\ FrS [] H H' := by
 refine ab_ Tryz.func13 ?_
 unfold Zax at bi
 refine sq_ fun k1 => g_' ?_
 refine ZaG e [i_ ad, ar] (Zs (rfl) (Zs (bb.one1) (Z1))) (by kernel_rfl) fun b2 dY V d7 aJ => ?_
 refine q_ (.bool false) (Za (k1 _ _ (sq_ fun c3 => sq_ fun c5 => g_' (lr_ 44 0 (.agg #[i_ ad, ar]) aJ ?_))))
 have bR := (bb.ext V)
 obtain ⟨bV, cr, bE⟩ := bs_ bi
 refine ck_ (ZaH V.wf bR cr) ?_
 rintro _ a6 ⟨rfl, D⟩
 refine q_ (.bool (!bV)) (Za (c5 _ _ ?_))
 refine wb_ ((!bV)) (fun aR => ?_) fun aR => ?_
 ·have bI := Ze aR bE
  refine sq_ fun bp => g_' (q_ (aC) ?_)
  have dO := ((am.ext V).fr D dn_)
  rcases (dO).cases with ⟨aS, rfl⟩ | ⟨aS, dF, dR, rfl⟩
  ·have du := Ze aS bI
   refine q_ (.bool true) (q_ (.bool true) (Za (bp _ _ ?_)))
   refine Zg (Zh ?_)
   refine br_ [.bool true] ?_
   obtain rfl := oi_ du
   exact ⟨rfl, (fs_ e ((f0_ e).extR V) D in_)⟩
  have dz := Zi aS bI
  refine l_' (.bool false) (Zb1 Tryz.prog .eql 38 (.tmp 15) (.const .nilIface) (.iface dF dR) .nilIface) (ZeY (by kernel_rfl)) (q_ (.bool false) (Za (bp _ _ ?_)))
  refine Zg (Zh ?_)
  refine br_ [.bool false] ?_
  obtain rfl := oi_ dz
  exact ⟨rfl, (fs_ e ((f0_ e).extR V) D in_)⟩
 have bM := ZL aR bE
 refine Zf (c3 _ _ (sq_ fun cQ => sq_ fun bq => g_' (q_ (aC) ?_)))
 have aA := ((am.ext V).fr D dn_)
 rcases (aA).cases with ⟨ap, rfl⟩ | ⟨ap, ae, af, rfl⟩
 ·have dB := Ze ap bM
  refine q_ (.bool true) (Za (bq _ _ ?_))
  refine wb_ true (fun _ => ?_) fun h => by cases h
  refine sq_ fun cR => g_' (q_ (.bool false) (Za (cR _ _ ?_)))
  refine Zg (Zh ?_)
  refine br_ [.bool false] ?_
  obtain rfl := oi_ dB
  exact ⟨rfl, (fs_ e ((f0_ e).extR V) D in_)⟩
 have dC := Zi ap bM
 refine l_' (.bool false) (Zb1 Tryz.prog .eql 38 (.tmp 17) (.const .nilIface) (.iface ae af) .nilIface) (ZeY (by kernel_rfl)) (Za (bq _ _ ?_))
 refine wb_ false (fun h => by cases h) fun _ => ?_
 refine Zf (cQ _ _ (sq_ fun cS => g_' (q_ (.iface ae af) (q_ (.iface ae af) (Za (cS _ _ (sq_ fun cT => sq_ fun cU => g_' (q_ (pt_ b2 1) ?_))))))))
 have a1 := (aJ.frS D dn_)
 refine lr_ 42 1 (ar) a1 ?_
 have bT := (bR.fr D dn_)
 refine bT.ln_ 42 (q_ (i_ 0) (Za (cU _ _ ?_)))
 obtain ⟨bX, cq, aY⟩ := bs_ dC
 refine ZC (fun α aK => ∃ aI, bX = Sum.inr aI /\ ∃ (au : Value), Has α [(0, .iface ae af), (3, pt_ b2 0), (5, au)] /\ FrS [] a6 aK /\ Ev 78 116 aK au aI aP) (fun _ cV => ?_) (fun α aK hM => ?_)
 ·refine Zm ?_
  obtain ⟨bA, ck⟩ := Zu.1 cq
  refine ZJ (fun n α aL => ∃ (O : Int), ∃ (Z : Er), ∃ (an : Value), ZR (fun zz_ => Zbw U zz_.1 zz_.2) n (O, Z) = some bX /\ Has α [(0, .iface ae af), (3, pt_ b2 0), (5, an), (21, ar), (22, i_ (U.length : Int)), (23, i_ O)] /\ FrS [] a6 aL /\ Ev 78 116 aL an Z aP) bA ⟨0, ah, (.iface ae af), ck, ha_, (fr_ D.wf), aA⟩ ?_
  rintro bA α aL ⟨O, Z, an, ci, bh, ag, aX⟩ d4 cW
  obtain ⟨dc, dT, rfl, az, aH⟩ := Zy ci
  obtain ⟨β, rfl⟩ := Zk bh
  clear bh
  replace az : Zbw U O Z = some dT := az
  unfold Zbw at az
  refine sq_ fun cX => g_' (q_ (.bool (decide (O < (U.length : Int)))) (Za (cX _ _ (sq_ fun cY => ?_))))
  refine wc_ (O < (U.length : Int)) (fun aw => ?_) fun aw => ?_
  ·have dD := Ze aw az
   refine Zf (cY _ _ (sq_ fun cZ => Zm (sq_ fun c0 => g_' ?_)))
   obtain ⟨ba, bN⟩ := Zb dD
   have bU := (bT.fr ag dn_)
   refine bU.ix_ 42 ba aw (le_ 115 0 (.agg #[i_ ((gt U O).1), i_ ((gt U O).2)]) bU ba aw ?_)
   refine rk_ ag.wf [i_ 0, i_ 0] fun d6 dZ aj ax bO => ?_
   obtain ⟨d0, dd, ai, dE⟩ := ra_ 115 0 aj.wf bO [i_ ((gt U O).1), i_ ((gt U O).2)] [i_ ((gt U O).1), i_ ((gt U O).2)]
   refine ek_ dd (Za (c0 _ _ (sq_ fun c4 => g_' ?_)))
   refine rk_ ai.wf [.pointer none] fun aN d1 al aG bP => ?_
   refine Za (c4 _ _ (sq_ fun c6 => sq_ fun br => ?_))
   refine ZQ [0, 1, 2, 3, 4, 5, 6, 7, 8, 9, 10, 11, 12, 13, 14, 15] (by kernel_rfl) ?_
   refine e_' (an) (e_' (.iface 118 (pt_ aN 0)) ?_)
   by_cases aF : Er.isAt Z = true
   ·have bQ := Ze aF bN
    have bt := (t_ (t_ (t_ (t_ V.n D.n) ag.n) aj.n) ai.n)
    have bZ := (aG.djn (am.lt.le bt))
    have bu := (t_ (t_ V.n D.n) ag.n)
    have b5 := (ax.djn (am.lt.le bu))
    have dG := (((aX.ext aj).fr ai b5).ext al)
    refine ZkQ 47 #[an, .iface 118 (pt_ aN 0)] (by kernel_rfl) (Zjw al.wf bP bZ dG aF) ?_
    rintro _ d2 ⟨rfl, aO, ak, a2, -, d8, aZ, bD, dQ⟩
    refine ⟨ZF, ?_⟩
    refine e_' (.bool false) (e_' (.bool false) (mr_ 116 0 (pt_ ak 0) aZ (e_' (.bool false) (e_' (.bool false) (e_' (.bool false) (mr_ 116 0 (pt_ ak 0) aZ (e_' (pt_ ak 0) (e_' (pt_ ak 0) (mr_ 115 0 (.agg #[i_ (Er.fk Z), i_ (Er.fi Z)]) bD ?_)))))))))
    have b6 := (aG.djn (bO.ltF.le ai.n))
    have dH := ((dE.ext al).frS aO b6)
    refine mr_ 115 0 (.agg #[i_ ((gt U O).1), i_ ((gt U O).2)]) dH (m_' (.bool (!decide ((Er.fk Z) = ((gt U O).1) /\ (Er.fi Z) = ((gt U O).2)))) (Zb1 Tryz.prog .neq 115 (.tmp 39) (.tmp 40) (.agg #[i_ (Er.fk Z), i_ (Er.fi Z)]) (.agg #[i_ ((gt U O).1), i_ ((gt U O).2)])) (Zj2 _ _ (Er.fk Z) (Er.fi Z) ((gt U O).1) ((gt U O).2)) (e_' (.bool (!decide ((Er.fk Z) = ((gt U O).1) /\ (Er.fi Z) = ((gt U O).2)))) ?_))
    refine ZI ?_
    refine br _ _ ?_
    refine Zde ((Er.fk Z) = ((gt U O).1) /\ (Er.fi Z) = ((gt U O).2)) (by kernel_rfl) rfl (fun aQ => ?_) (fun aQ => ?_)
    ·have de := Zi aQ bQ
     refine sq_ fun cx => g_' (q_ (.bool false) (Za (cx _ _ ?_)))
     refine Zg (Zh (ZN (Zh (Zh (ZN (Zh (Zh ?_)))))))
     obtain ⟨ed, bj, cu⟩ := map_some de
     subst cu
     obtain rfl := Zx aH
     have cm := elim_inl aY
     rw [cm] at bj
     refine br_ [.bool false] ?_
     obtain rfl := oi_ bj
     exact ⟨rfl, (fs_ e ((fs_ e ((fs_ e (fs_ e ((f0_ e).extR V) D in_) ag in_).extR aj) ai (ax.fresh bu)).extR al) aO (aG.fresh bt))⟩
    have df := Ze aQ bQ
    refine Zf (c6 _ _ (g_' (lr_ 116 0 (pt_ ak 0) aZ (q_ (pt_ ak 0) (q_ (pt_ ak 2) (lr_ 38 2 (a2) bD (q_ (a2) (Za (cZ _ _ (g_' ?_))))))))))
    obtain ⟨cf, dg⟩ := Zb df
    refine w_' ((O + 1)) (Zn (by have := cf; omega)) (q_ (i_ (O + 1)) (Za ?_))
    have c7 := (t_ (t_ ag.n aj.n) ai.n)
    obtain rfl := oi_ dg
    exact cW dc _ _ lt_ ⟨(O + 1), (Er.fe Z), (a2), aH, ha_, (fs_ D.wf ((fs_ D.wf ((fs_ D.wf (fr_ D.wf) ag in_).extR aj) ai (ax.fresh ag.n)).extR al) aO (aG.fresh c7)), dQ⟩
   have dh := Zi aF bN
   have bv := (t_ (t_ V.n D.n) ag.n)
   have b7 := (ax.djn (am.lt.le bv))
   have dI := (((aX.ext aj).fr ai b7).ext al)
   refine ZkQ 47 #[an, .iface 118 (pt_ aN 0)] (by kernel_rfl) (ZjJ bP dI aF) ?_
   rintro _ _ ⟨rfl, rfl⟩
   refine ⟨ZF, ?_⟩
   refine e_' (.bool true) (e_' (.bool true) (j_' (j_' (e_' (.bool true) (e_' (.bool true) (j_' (j_' (j_' (j_' (j_' (j_' (e_' (.bool true) ?_))))))))))))
   refine ZI ?_
   refine br _ _ ?_
   refine wb_ true (fun _ => ?_) fun h => by cases h
   refine sq_ fun cy => g_' (q_ (.bool false) (Za (cy _ _ ?_)))
   refine Zg (Zh (ZN (Zh (Zh (ZN (Zh (Zh ?_)))))))
   obtain ⟨ee, bk, cv⟩ := map_some dh
   subst cv
   obtain rfl := Zx aH
   have cn := elim_inl aY
   rw [cn] at bk
   refine br_ [.bool false] ?_
   obtain rfl := oi_ bk
   exact ⟨rfl, ((fs_ e ((fs_ e (fs_ e ((f0_ e).extR V) D in_) ag in_).extR aj) ai (ax.fresh bv)).extR al)⟩
  have di := Zi aw az
  refine ZK (Zj (Zj (ZV ?_)))
  obtain rfl := oi_ di
  obtain rfl := Zx aH
  exact cV _ _ ⟨_, rfl, (an), ha_, (fs_ D.wf (fr_ D.wf) ag in_), aX⟩
 obtain ⟨aI, rfl, au, bg, ab, bs⟩ := hM
 have bF := elim_inr aY
 obtain ⟨β, rfl⟩ := Zk bg
 clear bg
 refine cT _ _ (sq_ fun cz => g_' ?_)
 refine rk_ ab.wf [.pointer none] fun aM dU aa bc bG => ?_
 refine Za (cz _ _ (sq_ fun cA => sq_ fun bn => g_' (q_ (au) (q_ (.iface 118 (pt_ aM 0)) ?_))))
 by_cases aD : Er.isAt aI = true
 ·have dk := Ze aD bF
  have bw := (t_ (t_ V.n D.n) ab.n)
  have b8 := (bc.djn (am.lt.le bw))
  have dJ := (bs.ext aa)
  refine ZgE 47 #[au, .iface 118 (pt_ aM 0)] (by kernel_rfl) (Zjw aa.wf bG b8 dJ aD) ?_
  rintro _ dV ⟨rfl, cc, d5, ec, -, d9, d_, ea, ef⟩
  refine Za (bn _ _ ?_)
  refine wb_ true (fun _ => ?_) fun h => by cases h
  refine sq_ fun cB => g_' (q_ (.bool false) (Za (cB _ _ ?_)))
  refine Zg (Zh ?_)
  refine br_ [.bool false] ?_
  obtain rfl := oi_ dk
  exact ⟨rfl, (fs_ e ((fs_ e (fs_ e ((f0_ e).extR V) D in_) ab in_).extR aa) cc (bc.fresh bw))⟩
 have dm := Zi aD bF
 have dK := (bs.ext aa)
 refine ZgE 47 #[au, .iface 118 (pt_ aM 0)] (by kernel_rfl) (ZjJ bG dK aD) ?_
 rintro _ _ ⟨rfl, rfl⟩
 refine Za (bn _ _ ?_)
 refine wb_ false (fun h => by cases h) fun _ => ?_
 refine Zf (cA _ _ (sq_ fun cC => g_' ?_))
 refine rk_ aa.wf [i_ 0] fun aB bY ac aq bH => ?_
 refine Za (cC _ _ (sq_ fun cD => sq_ fun cE => ?_))
 obtain ⟨bB, bm, bJ⟩ := bs_ dm
 refine ZC (fun α ao => Has α [(0, .iface ae af), (3, pt_ b2 0), (60, .bool bB)] /\ FrS [aB] bY ao) (fun _ bo => ?_) (fun α ao hM => ?_)
 ·refine g_' (q_ (.iface ae af) (q_ (.iface 121 (pt_ aB 0)) ?_))
  by_cases aE : (Er.num ah).isSome = true
  ·have dn := Ze aE bm
   have dL := (((aA.fr ab dn_).ext aa).ext ac)
   refine ZgE 47 #[.iface ae af, .iface 121 (pt_ aB 0)] (by kernel_rfl) (Znq ac.wf bH dL ap aE) ?_
   rintro _ dW ⟨rfl, a_, dp⟩
   refine q_ (.bool false) (q_ (.bool false) (lr_ 78 0 (i_ ((Er.num ah).getD 0)) dp (q_ (pt_ b2 0) ?_)))
   have c8 := (t_ (t_ D.n ab.n) aa.n)
   have b9 := (aq.djn (aJ.ltF.le c8))
   have dM := ((((a1.frS ab dn_).ext aa).ext ac).frS a_ b9)
   refine lr_ 3 0 (i_ ad) dM (q_ (.bool (!decide (((Er.num ah).getD 0) = ad))) (q_ (.bool (!decide (((Er.num ah).getD 0) = ad))) (Za ?_)))
   obtain rfl := oi_ dn
   exact bo _ _ ⟨ha_, (fs_ ac.wf (fr_ ac.wf) a_ ir_)⟩
  have dq := Zi aE bm
  have dN := (((aA.fr ab dn_).ext aa).ext ac)
  refine ZgE 47 #[.iface ae af, .iface 121 (pt_ aB 0)] (by kernel_rfl) (Znc ac.wf bH dN ap aE) ?_
  rintro _ dX ⟨rfl, cd, eb⟩
  refine q_ (.bool true) (q_ (.bool true) (n_' (n_' (n_' (n_' (q_ (.bool true) (Za ?_)))))))
  obtain rfl := oi_ dq
  exact bo _ _ ⟨ha_, (fs_ ac.wf (fr_ ac.wf) cd ir_)⟩
 obtain ⟨bd, av⟩ := hM
 obtain ⟨β, rfl⟩ := Zk bd
 clear bd
 refine cE _ _ ?_
 refine wb_ (bB) (fun aT => ?_) fun aT => ?_
 ·have dr := Ze aT bJ
  refine sq_ fun cF => g_' (q_ (.bool false) (Za (cF _ _ ?_)))
  refine Zg (Zh ?_)
  refine br_ [.bool false] ?_
  have c9 := (t_ (t_ (t_ V.n D.n) ab.n) aa.n)
  obtain rfl := oi_ dr
  exact ⟨rfl, (fs_ e (((fs_ e (fs_ e ((f0_ e).extR V) D in_) ab in_).extR aa).extR ac) av (aq.fresh c9))⟩
 have dt := ZL aT bJ
 refine Zf (cD _ _ (sq_ fun cG => sq_ fun cH => g_' (q_ (i_ 1) (Za (cH _ _ ?_)))))
 obtain ⟨bW, cp, bK⟩ := bs_ dt
 refine ZC (fun α a7 => ∃ bC, bW = Sum.inr bC /\ Has α [] /\ ao = a7) (fun _ cI => ?_) (fun α a7 hM => ?_)
 ·refine Zm ?_
  obtain ⟨bx, cj⟩ := Zu.1 cp
  refine ZJ (fun n α a8 => ∃ (Y : Int), ZR (fun zz_ => ZbG ah ad zz_) n Y = some bW /\ Has α [(0, .iface ae af), (3, pt_ b2 0), (11, i_ Y)] /\ ao = a8) bx ⟨1, cj, ha_, rfl⟩ ?_
  rintro bx α a8 ⟨Y, ch, bf, rfl⟩ d3 cJ
  obtain ⟨c_, dS, rfl, ay, aW⟩ := Zy ch
  obtain ⟨β, rfl⟩ := Zk bf
  clear bf
  replace ay : ZbG ah ad Y = some dS := ay
  unfold ZbG at ay
  refine sq_ fun cK => sq_ fun cL => g_' (q_ (i_ Y) (q_ (.bool (decide (Y ≤ 20))) (Za (cL _ _ ?_))))
  refine wc_ (Y ≤ 20) (fun aU => ?_) fun aU => ?_
  ·have bL := Ze aU ay
   refine Zf (cK _ _ (sq_ fun cM => Zm (sq_ fun cN => ?_)))
   refine ZQ [0, 1, 2, 4, 5, 6, 7, 3, 8] (by kernel_rfl) ?_
   refine e_' (.iface ae af) (e_' (i_ Y) (e_' (.iface 78 (i_ Y)) (e_' (i_ Y) (e_' (pt_ b2 0) ?_))))
   have da := (t_ (t_ D.n ab.n) aa.n)
   have b_ := (aq.djn (aJ.ltF.le da))
   have bS := ((((a1.frS ab dn_).ext aa).ext ac).frS av b_)
   refine Zcb (i_ ad) (x := aL_ 3 (pt_ b2 0) ao) (by kernel_rfl) (bS.l_) ?_
   refine e_' (.bool (decide (Y = ad))) ?_
   have bz := (t_ (t_ (t_ V.n D.n) ab.n) aa.n)
   have ca := (aq.djn (am.lt.le bz))
   have dP := ((((aA.fr ab dn_).ext aa).ext ac).fr av ca)
   refine ZkQ 48 #[.iface ae af, .iface 78 (i_ Y)] (by kernel_rfl) (a_isN dP ap) ?_
   rintro _ _ ⟨rfl, rfl⟩
   refine ⟨ZaB (y := aL_ 3 (pt_ b2 0) ao) (by kernel_rfl) (bS.l_) (ZF), ?_⟩
   refine e_' (.bool (!decide ((decide (Er.num ah = some Y)) = (decide (Y = ad))))) ?_
   refine ZI ?_
   refine cN _ _ ?_
   refine Zde ((decide (Er.num ah = some Y)) = (decide (Y = ad))) (by kernel_rfl) rfl (fun aV => ?_) (fun aV => ?_)
   ·have dv := Zi aV bL
    refine sq_ fun cO => g_' (q_ (.bool false) (Za (cO _ _ ?_)))
    refine Zg (ZN (Zh (Zh (ZN (Zh (Zh ?_))))))
    obtain ⟨eh, bl, cw⟩ := map_some dv
    subst cw
    obtain rfl := Zx aW
    have co := elim_inl bK
    rw [co] at bl
    refine br_ [.bool false] ?_
    obtain rfl := oi_ bl
    exact ⟨rfl, (fs_ e (((fs_ e (fs_ e ((f0_ e).extR V) D in_) ab in_).extR aa).extR ac) av (aq.fresh bz))⟩
   have dw := Ze aV bL
   refine Zf (cM _ _ (g_' (q_ (i_ Y) ?_)))
   obtain ⟨cg, dx⟩ := Zb dw
   refine w_' ((Y + 1)) (Zn cg) (q_ (i_ (Y + 1)) (Za ?_))
   obtain rfl := oi_ dx
   exact cJ c_ _ _ lt_ ⟨(Y + 1), aW, ha_, rfl⟩
  have dy := Zi aU ay
  refine ZK (Zj (Zj (ZV ?_)))
  obtain rfl := oi_ dy
  obtain rfl := Zx aW
  exact cI _ _ ⟨_, rfl, trivial, rfl⟩
 obtain ⟨bC, rfl, be, rfl⟩ := hM
 have dA := elim_inr bK
 obtain ⟨β, rfl⟩ := Zk be
 clear be
 refine cG _ _ (sq_ fun cP => g_' (q_ (.bool true) (Za (cP _ _ ?_))))
 refine Zg ?_
 refine br_ [.bool true] ?_
 have db := (t_ (t_ (t_ V.n D.n) ab.n) aa.n)
 obtain rfl := oi_ dA
 exact ⟨rfl, (fs_ e (((fs_ e (fs_ e ((f0_ e).extR V) D in_) ab in_).extR aa).extR ac) av (aq.fresh db))⟩
end Go.Vd

/-! (KSn10) -/

set_option maxRecDepth 100000
set_option maxHeartbeats 4000000
set_option linter.unusedVariables false
namespace Go.Vd
open Go.Proofs
attribute [local irreducible] Zp Zr aWp
theorem Zfu {H : AH} {ae : Value} {a8 : Fp} {af : Value} {a_ : Fp} {aD : List (Bool)} {Arcs : List (Int × Int × Int × Int)} {ah : Int} {al : Int} {am : Int} {ak : Int} {ai : Int} {aj : Int} {r : Int × Int}
    (O : WF H) (ax : Sq ZaC 1 H ae aD a8) (ay : Sq Zo 4 H af Arcs a_) (aI : Zbi aD Arcs ah al am ak ai aj = some r) :
    ACalls Tryz.prog 24 #[.agg #[ae, af], i_ ah, .agg #[i_ al, i_ am, i_ ak, i_ ai, i_ aj]] H fun v H' => v = .tuple #[i_ r.1, .agg #[i_ r.2, .slice none 0 0]] /\ FrS [] H H' := by
 refine ab_ Tryz.func24 ?_
 unfold Zbi at aI
 refine sq_ fun k1 => g_' ?_
 refine ZaG O [ae, af] (Zs (ax.one1) (Zs (ay.one1) (Z1))) (by kernel_rfl) fun b2 bP Z b7 aM => ?_
 refine rl_ Z.wf [i_ al, i_ am, i_ ak, i_ ai, i_ aj] fun bW bT V b6 bv => ?_
 refine q_ (i_ 0) ?_
 refine rk_ V.wf [i_ 0, .slice none 0 0] fun aG bO Y aH ar => ?_
 refine Za (k1 _ _ (sq_ fun bg => g_' ?_))
 have aN := ((aM.ext V).ext Y)
 refine lr_ 33 0 (.agg #[ae, af]) aN (q_ (i_ ah) ?_)
 have bG := (bv.ext Y)
 refine lr_ 53 0 (.agg #[i_ al, i_ am, i_ ak, i_ ai, i_ aj]) bG ?_
 have aO := (((ax.ext Z).ext V).ext Y)
 have aP := (((ay.ext Z).ext V).ext Y)
 obtain ⟨e, bc, bw⟩ := bs_ aI
 refine ck_ (ZdK Y.wf aO aP bc) ?_
 rintro _ bQ ⟨ce, f29, rfl, D, az, b9⟩
 obtain ⟨an, aq, ao, rfl⟩ := az.form
 refine q_ (.tuple #[.slice an aq ao, .agg #[i_ e.2, .slice none 0 0]]) (q_ (.slice an aq ao) (q_ (.agg #[i_ e.2, .slice none 0 0]) ?_))
 refine rk_ D.wf [i_ 0, .slice none 0 0] fun av bR aa ac bx => ?_
 refine q_ (.slice an aq ao) ?_
 obtain ⟨bS, bq, ab, aB⟩ := ra_ 44 0 aa.wf bx [i_ e.2, .slice none 0 0] [i_ e.2, .slice none 0 0]
 refine ek_ bq (Za (bg _ _ (sq_ fun bh => sq_ fun bi => g_' (lr_ 44 0 (.agg #[i_ e.2, .slice none 0 0]) aB ?_))))
 obtain ⟨bN, bd, aL⟩ := bs_ bw
 refine ck_ (ZaH ab.wf (Sq.nil (enc := Zav) (sz := 2) (by decide)) bd) ?_
 rintro _ aE ⟨rfl, U⟩
 refine Za (bi _ _ ?_)
 refine wb_ (bN) (fun aw => ?_) fun aw => ?_
 ·have bz := Ze aw aL
  refine sq_ fun bj => ?_
  refine ZQ [0, 1, 2] (by kernel_rfl) ?_
  have bH := (aB.frS U dn_)
  refine mr_ 44 0 (.agg #[i_ e.2, .slice none 0 0]) bH (e_' (i_ 0) ?_)
  have aY := (ac.djn (ar.ltF.le D.n))
  have bI := ((((ar.frS D dn_).ext aa).frS ab aY).frS U dn_)
  obtain ⟨aW, br, a7, bA⟩ := ra_ 44 0 U.wf bI [i_ e.2, .slice none 0 0] [i_ e.2, .slice none 0 0]
  refine fk_ br (ZF) ?_
  refine ZI ?_
  refine bj _ _ ?_
  refine Zg (Zh ?_)
  refine Z3 (vs := [i_ 0, .agg #[i_ e.2, .slice none 0 0]]) (ZbU (by kernel_rfl) (ZM (Eq.trans (b := aL_ 44 (pt_ aG 0) aW) (by kernel_rfl) (bA.l_)) (rfl))) ?_
  have bm := (t_ (t_ (t_ Z.n V.n) Y.n) D.n)
  have bn := (t_ Z.n V.n)
  obtain rfl := oi_ bz
  exact ⟨rfl, (fs_ O (fs_ O (fs_ O ((fs_ O ((((f0_ O).extR Z).extR V).extR Y) D in_).extR aa) ab (ac.fresh bm)) U in_) a7 (aH.fresh bn))⟩
 have bB := ZL aw aL
 refine Zf (bh _ _ (sq_ fun bk => ?_))
 refine ZQ [0, 1, 2, 3, 7, 8, 12, 4, 5, 6, 9, 10, 11, 13, 14] (by kernel_rfl) ?_
 refine e_' (.slice an aq ao) ?_
 have bJ := (((az.ext aa).fr ab (ac.djn az.lt)).fr U dn_)
 refine bJ.sq.mn_ 57 ?_
 have bo := (t_ (t_ V.n Y.n) D.n)
 have aZ := (ac.djn (aM.ltF.le bo))
 have aC := ((((aN.frS D dn_).ext aa).frS ab aZ).frS U dn_)
 refine mr_ 33 0 (.agg #[ae, af]) aC (e_' (i_ ah) ?_)
 refine Zcb (.agg #[ae, af]) (x := aL_ 33 (pt_ b2 0) aE) (by kernel_rfl) (aC.l_) ?_
 refine e_' (i_ ah) ?_
 have aQ := (aB.frS U dn_)
 refine Zcb (.agg #[i_ e.2, .slice none 0 0]) (x := aL_ 44 (pt_ av 0) aE) (by kernel_rfl) (aQ.l_) ?_
 have aA := (t_ (t_ (t_ Z.n V.n) Y.n) D.n)
 have a1 := (ac.djn (ax.lt.le aA))
 have aR := ((((aO.fr D dn_).ext aa).fr ab a1).fr U dn_)
 have a2 := (ac.djn (ay.lt.le aA))
 have aS := ((((aP.fr D dn_).ext aa).fr ab a2).fr U dn_)
 obtain ⟨ag, be, bC⟩ := bs_ bB
 refine dk_ (ZeN U.wf aR aS be) ?_
 rintro cf aF ⟨_, b5, rfl, ad, aK, b_⟩
 obtain ⟨bV, cc, bY, rfl⟩ := aK.form
 have bK := (aC.frS ad dn_)
 have aT := (aQ.frS ad dn_)
 refine ⟨ZaB (y := aL_ 44 (pt_ av 0) aF) (by kernel_rfl) (aT.l_) (ZaB (y := aL_ 33 (pt_ b2 0) aF) (by kernel_rfl) (bK.l_) (ZF)), ?_⟩
 refine aK.sq.mn_ 132 ?_
 obtain ⟨bb, bD⟩ := Zb bC
 refine d_w (((e.1.length : Int) - (ag.length : Int))) (k := .i64) (x := ((e.1.length : Int) - (ag.length : Int))) (by kernel_rfl) (Zn bb) ?_
 have bL := (aR.fr ad dn_)
 have bM := (aS.fr ad dn_)
 obtain ⟨au, bf, bs⟩ := bs_ bD
 refine dk_ (Zc4 ad.wf bL bM bf) ?_
 rintro cd aU ⟨_, bZ, rfl, ap, aJ, b8⟩
 obtain ⟨bU, ca, bX, rfl⟩ := aJ.form
 have bE := (aT.frS ap dn_)
 refine ⟨ZaB (y := aL_ 44 (pt_ av 0) aU) (by kernel_rfl) (bE.l_) (Zab (by kernel_rfl) (ZF)), ?_⟩
 refine aJ.sq.mn_ 132 ?_
 obtain ⟨ba, bt⟩ := Zb bs
 refine d_w ((((e.1.length : Int) - (ag.length : Int)) - (au.length : Int))) (k := .i64) (x := (((e.1.length : Int) - (ag.length : Int)) - (au.length : Int))) (by kernel_rfl) (Zn ba) ?_
 refine e_' (i_ (((e.1.length : Int) - (ag.length : Int)) - (au.length : Int))) ?_
 have aX := (ac.djn (ar.ltF.le D.n))
 have bF := ((((((ar.frS D dn_).ext aa).frS ab aX).frS U dn_).frS ad dn_).frS ap dn_)
 obtain ⟨aV, bp, a6, bu⟩ := ra_ 44 0 ap.wf bF [i_ e.2, .slice none 0 0] [i_ e.2, .slice none 0 0]
 refine fk_ bp (Zab (by kernel_rfl) (Zab (by kernel_rfl) (ZF))) ?_
 refine ZI ?_
 refine bk _ _ ?_
 refine Zg ?_
 refine Z3 (vs := [i_ (((e.1.length : Int) - (ag.length : Int)) - (au.length : Int)), .agg #[i_ e.2, .slice none 0 0]]) (ZbU (by kernel_rfl) (ZM (Eq.trans (b := aL_ 44 (pt_ aG 0) aV) (by kernel_rfl) (bu.l_)) (rfl))) ?_
 have bl := (t_ Z.n V.n)
 obtain rfl := oi_ bt
 exact ⟨rfl, (fs_ O (fs_ O (fs_ O (fs_ O (fs_ O ((fs_ O ((((f0_ O).extR Z).extR V).extR Y) D in_).extR aa) ab (ac.fresh aA)) U in_) ad in_) ap in_) a6 (aH.fresh bl))⟩
theorem ZfJ {H : AH} {e : Nat} {O : Value} {Z : Fp} {V : List (Bool × List (Int × Int × Int) × List (Int × Int × Int))} {D : Int} {Y : Int} {r : Int}
    (ad : WF H) (ac : Nd Zc 3 H O V Z []) (aa : Row H e [O, i_ D, i_ Y]) (U : Zcv V D Y = some r) :
    ACalls Tryz.prog 14 #[pt_ e 0] H fun v H' => v = i_ r /\ H = H' := by
 refine ab_ Tryz.func14 ?_
 unfold Zcv at U
 refine sq_ fun k1 => g_' (q_ (i_ 0) (Za (k1 _ _ (sq_ fun k2 => sq_ fun k3 => g_' (q_ (pt_ e 0) (q_ (.bool false) (Za (k3 _ _ ?_))))))))
 refine wb_ false (fun h => by cases h) fun _ => ?_
 refine Zf (k2 _ _ (sq_ fun ab => g_' (q_ (pt_ e 0) (q_ (pt_ e 0) (q_ (pt_ e 1) (lr_ 3 1 (i_ D) aa (q_ (i_ D) (Za (ab _ _ ?_)))))))))
 refine Zg ?_
 refine br_ [i_ D] ?_
 obtain rfl := oi_ U
 exact ⟨rfl, rfl⟩
theorem ZgB {H : AH} {V : Value} {av : Fp} {ab : Value} {aw : Fp} {D : List (Bool)} {Arcs : List (Int × Int × Int × Int)} {r : Int}
    (au : WF H) (aj : Sq ZaC 1 H V D av) (aA : Sq Zo 4 H ab Arcs aw) (am : Zcl D Arcs = some r) :
    ACalls Tryz.prog 15 #[.agg #[V, ab]] H fun v H' => v = i_ r /\ FrS [] H H' := by
 refine ab_ Tryz.func15 ?_
 unfold Zcl at am
 refine sq_ fun k1 => g_' ?_
 refine ZaG au [V, ab] (Zs (aj.one1) (Zs (aA.one1) (Z1))) (by kernel_rfl) fun b2 ag ah aY aV => ?_
 refine q_ (i_ 0) (Za (k1 _ _ (sq_ fun aL => g_' (q_ (i_ 0) (Za (aL _ _ (sq_ fun aM => sq_ fun aE => g_' (q_ (pt_ b2 0) (lr_ 30 0 (V) aV ?_)))))))))
 have ad := (aj.ext ah)
 refine ad.ln_ 30 (q_ (i_ 0) (Za (aE _ _ ?_)))
 obtain ⟨Z, aD, aN⟩ := bs_ am
 refine ZC (fun α ae => Has α [(3, i_ Z)] /\ ag = ae) (fun _ aF => ?_) (fun α ae hM => ?_)
 ·refine Zm ?_
  obtain ⟨ap, aC⟩ := Zu.1 aD
  refine ZJ (fun n α af => ∃ (O : Int), ∃ (e : Int), ZR (fun zz_ => ZbB D zz_.1 zz_.2) n (O, e) = some Z /\ Has α [(3, i_ O), (7, V), (8, i_ (D.length : Int)), (9, i_ e)] /\ ag = af) ap ⟨0, 0, aC, ha_, rfl⟩ ?_
  rintro ap α af ⟨O, e, aB, al, rfl⟩ aX an
  obtain ⟨aq, aW, rfl, Y, ac⟩ := Zy aB
  obtain ⟨β, rfl⟩ := Zk al
  clear al
  replace Y : ZbB D O e = some aW := Y
  unfold ZbB at Y
  refine sq_ fun aG => g_' (q_ (.bool (decide (e < (D.length : Int)))) (Za (aG _ _ (sq_ fun aH => ?_))))
  refine wc_ (e < (D.length : Int)) (fun U => ?_) fun U => ?_
  ·have aO := Ze U Y
   refine Zf (aH _ _ (sq_ fun ao => Zm (sq_ fun aI => g_' ?_)))
   obtain ⟨ai, ar⟩ := Zb aO
   refine ad.ix_ 30 ai U (le_ 4 0 (.bool (gt D e)) ad ai U (q_ (.bool (gt D e)) (Za (aI _ _ (sq_ fun aJ => g_' (q_ (.bool (gt D e)) (Za (aJ _ _ ?_))))))))
   refine wb_ ((gt D e)) (fun aa => ?_) fun aa => ?_
   ·have aP := Ze aa ar
    refine g_' (q_ (i_ O) ?_)
    obtain ⟨ax, aQ⟩ := Zb aP
    refine w_' ((O + 1)) (Zn ax) (q_ (i_ (O + 1)) (Za (ao _ _ (g_' ?_))))
    obtain ⟨ay, aR⟩ := Zb aQ
    refine w_' ((e + 1)) (Zn (by have := ay; omega)) (q_ (i_ (e + 1)) (Za ?_))
    obtain rfl := oi_ aR
    exact an aq _ _ lt_ ⟨(O + 1), (e + 1), ac, ha_, rfl⟩
   have aS := ZL aa ar
   refine Zf (ao _ _ (g_' ?_))
   obtain ⟨az, aT⟩ := Zb aS
   refine w_' ((e + 1)) (Zn (by have := az; omega)) (q_ (i_ (e + 1)) (Za ?_))
   obtain rfl := oi_ aT
   exact an aq _ _ lt_ ⟨O, (e + 1), ac, ha_, rfl⟩
  have aU := Zi U Y
  refine ZK (Zj (Zj (ZV ?_)))
  obtain rfl := oi_ aU
  obtain rfl := Zx ac
  exact aF _ _ ⟨ha_, rfl⟩
 obtain ⟨ak, rfl⟩ := hM
 obtain ⟨β, rfl⟩ := Zk ak
 clear ak
 refine aM _ _ (sq_ fun aK => g_' (q_ (i_ Z) (q_ (i_ Z) (Za (aK _ _ ?_)))))
 refine Zg ?_
 refine br_ [i_ Z] ?_
 obtain rfl := oi_ aN
 exact ⟨rfl, ((f0_ au).extR ah)⟩
theorem Zft {H : AH} {e : Nat} {O : Value} {Z : Fp} {V : List (Bool × List (Int × Int × Int) × List (Int × Int × Int))} {Y : Int} {D : Int} {r : Int}
    (ad : WF H) (ac : Nd Zc 3 H O V Z []) (aa : Row H e [O, i_ Y, i_ D]) (U : Zcg V Y D = some r) :
    ACalls Tryz.prog 16 #[pt_ e 0] H fun v H' => v = i_ r /\ H = H' := by
 refine ab_ Tryz.func16 ?_
 unfold Zcg at U
 refine sq_ fun k1 => g_' (q_ (i_ 0) (Za (k1 _ _ (sq_ fun k2 => sq_ fun k3 => g_' (q_ (pt_ e 0) (q_ (.bool false) (Za (k3 _ _ ?_))))))))
 refine wb_ false (fun h => by cases h) fun _ => ?_
 refine Zf (k2 _ _ (sq_ fun ab => g_' (q_ (pt_ e 0) (q_ (pt_ e 0) (q_ (pt_ e 2) (lr_ 3 2 (i_ D) aa (q_ (i_ D) (Za (ab _ _ ?_)))))))))
 refine Zg ?_
 refine br_ [i_ D] ?_
 obtain rfl := oi_ U
 exact ⟨rfl, rfl⟩
theorem Zgi {H : AH} {ak : Nat} {a8 : Value} {bX : Fp} {aq : Value} {bV : Fp} {aw : Value} {bW : Fp} {aD : List (Bool × List (Int × Int × Int) × List (Int × Int × Int))} {aE : Int} {aF : Int} {ad : List (Bool)} {Arcs : List (Int × Int × Int × Int)} {r : Bool}
    (D : WF H) (a7 : Nd Zc 3 H a8 aD bX []) (a6 : Row H ak [a8, i_ aE, i_ aF]) (aS : Sq ZaC 1 H aq ad bV) (aT : Sq Zo 4 H aw Arcs bW) (bf : Zb3 aD aE aF ad Arcs = some r) :
    ACalls Tryz.prog 25 #[pt_ ak 0, .agg #[aq, aw]] H fun v H' => v = .bool r /\ FrS [] H H' := by
 refine ab_ Tryz.func25 ?_
 unfold Zb3 at bf
 refine sq_ fun k1 => g_' ?_
 refine ZaG D [aq, aw] (Zs (aS.one1) (Zs (aT.one1) (Z1))) (by kernel_rfl) fun b2 aI U dM aH => ?_
 refine q_ (.bool false) (Za (k1 _ _ (sq_ fun cX => sq_ fun cY => ?_)))
 obtain ⟨bs, cg, bx⟩ := bs_ bf
 refine ZC (fun α aC => Has α [(0, pt_ ak 0), (3, pt_ b2 0), (21, .bool bs)] /\ FrS [] aI aC) (fun _ bp => ?_) (fun α aC hM => ?_)
 ·refine ZQ [0, 2, 1, 3, 4, 5, 6, 8, 9, 10, 7, 11, 12] (by kernel_rfl) ?_
  refine e_' (pt_ ak 0) ?_
  refine Zcb (.agg #[aq, aw]) (x := aL_ 33 (pt_ b2 0) aI) (by kernel_rfl) (aH.l_) ?_
  have bE := (a7.ext U)
  have bF := (a6.ext U)
  obtain ⟨dF, ck, df⟩ := bs_ cg
  refine dk_ (ZfJ U.wf bE bF ck) ?_
  rintro _ _ ⟨rfl, rfl⟩
  refine ⟨ZaB (y := aL_ 33 (pt_ b2 0) aI) (by kernel_rfl) (aH.l_) (ZF), ?_⟩
  have dA := (aS.ext U)
  have bG := (aT.ext U)
  obtain ⟨dG, cm, bC⟩ := bs_ df
  refine dk_ (ZgB U.wf dA bG cm) ?_
  rintro _ a1 ⟨rfl, au⟩
  refine ⟨Zab (by kernel_rfl) (ZF), ?_⟩
  refine ZkX (dF = dG) (by kernel_rfl) (fun aQ => ?_) (fun aQ => ?_)
  ·have dn := Ze aQ bC
   refine e_' (.bool false) (e_' (pt_ ak 0) (e_' (pt_ b2 1) ?_))
   have bH := (aH.frS au dn_)
   refine Zcb (aw) (x := aL_ 31 (pt_ b2 1) a1) (by kernel_rfl) (bH.l_) ?_
   have dB := (bG.fr au dn_)
   refine dB.mn_ 31 ?_
   have dC := (bE.fr au dn_)
   have dD := (bF.frS au dn_)
   obtain ⟨bQ, cn, dp⟩ := bs_ dn
   refine dk_ (Zft au.wf dC dD cn) ?_
   rintro _ _ ⟨rfl, rfl⟩
   refine ⟨ZaB (y := aL_ 31 (pt_ b2 1) a1) (by kernel_rfl) (bH.l_) (Zab (by kernel_rfl) (ZF)), ?_⟩
   refine e_' (.bool (!decide (bQ = (Arcs.length : Int)))) (e_' (.bool (!decide (bQ = (Arcs.length : Int)))) ?_)
   refine ZI ?_
   obtain rfl := oi_ dp
   exact bp _ _ ⟨ha_, (fs_ U.wf (fr_ U.wf) au in_)⟩
  have dq := Zi aQ bC
  refine e_' (.bool true) (j_' (j_' (j_' (j_' (j_' (j_' (e_' (.bool true) ?_)))))))
  refine ZI ?_
  obtain rfl := oi_ dq
  exact bp _ _ ⟨ha_, (fs_ U.wf (fr_ U.wf) au in_)⟩
 obtain ⟨bc, V⟩ := hM
 obtain ⟨β, rfl⟩ := Zk bc
 clear bc
 refine cY _ _ ?_
 refine wb_ (bs) (fun aR => ?_) fun aR => ?_
 ·have dr := Ze aR bx
  refine sq_ fun cN => g_' (q_ (.bool false) (Za (cN _ _ ?_)))
  refine Zg (Zh ?_)
  refine br_ [.bool false] ?_
  obtain rfl := oi_ dr
  exact ⟨rfl, (fs_ D ((f0_ D).extR U) V in_)⟩
 have dt := ZL aR bx
 refine Zf (cX _ _ (sq_ fun cO => sq_ fun cP => g_' (q_ (pt_ b2 0) ?_)))
 have bI := (aH.frS V dn_)
 refine lr_ 30 0 (aq) bI ?_
 have bJ := ((aS.ext U).fr V dn_)
 refine bJ.ln_ 30 (q_ (i_ 0) (Za (cP _ _ ?_)))
 obtain ⟨bS, ci, aB⟩ := bs_ dt
 refine ZC (fun α a2 => ∃ bv, bS = Sum.inr bv /\ Has α [] /\ FrS [] aC a2) (fun _ cQ => ?_) (fun α a2 hM => ?_)
 ·refine Zm ?_
  obtain ⟨br, b8⟩ := Zu.1 ci
  refine ZJ (fun n α aJ => ∃ (O : Int), ZR (fun zz_ => Zbe aD aE aF ad Arcs zz_) n O = some bS /\ Has α [(0, pt_ ak 0), (3, pt_ b2 0), (24, i_ (ad.length : Int)), (25, i_ O)] /\ FrS [] aC aJ) br ⟨0, b8, ha_, (fr_ V.wf)⟩ ?_
  rintro br α aJ ⟨O, b6, be, ai⟩ dJ cR
  obtain ⟨c0, z66, rfl, aA, ax⟩ := Zy b6
  obtain ⟨β, rfl⟩ := Zk be
  clear be
  replace aA : Zbe aD aE aF ad Arcs O = some z66 := aA
  unfold Zbe at aA
  refine sq_ fun cS => g_' (q_ (.bool (decide (O < (ad.length : Int)))) (Za (cS _ _ (sq_ fun cT => ?_))))
  refine wc_ (O < (ad.length : Int)) (fun av => ?_) fun av => ?_
  ·have du := Ze av aA
   refine Zf (cT _ _ (sq_ fun cU => Zm (sq_ fun cV => g_' (q_ (i_ O) (q_ (i_ O) (Za (cV _ _ (sq_ fun cW => ?_))))))))
   refine ZQ [0, 1, 3, 4, 2, 5, 6, 7] (by kernel_rfl) ?_
   refine e_' (pt_ ak 0) (e_' (i_ O) ?_)
   have bK := (bI.frS ai dn_)
   refine Zcb (.agg #[aq, aw]) (x := aL_ 33 (pt_ b2 0) aJ) (by kernel_rfl) (bK.l_) ?_
   refine e_' (i_ O) ?_
   have bL := (((a7.ext U).fr V dn_).fr ai dn_)
   have bM := (((a6.ext U).frS V dn_).frS ai dn_)
   obtain ⟨ac, co, dv⟩ := bs_ du
   refine dk_ (Zcu ai.wf bL bM co) ?_
   rintro dP bT ⟨_, dL, rfl, al, aV, dO⟩
   obtain ⟨Z, ab, aa, rfl⟩ := aV.form
   have bN := (bK.frS al dn_)
   refine ⟨ZaB (y := aL_ 33 (pt_ b2 0) bT) (by kernel_rfl) (bN.l_) (ZF), ?_⟩
   have bO := ((bJ.fr ai dn_).fr al dn_)
   have dE := ((((aT.ext U).fr V dn_).fr ai dn_).fr al dn_)
   obtain ⟨an, cp, dw⟩ := bs_ dv
   refine dk_ (Zc4 al.wf bO dE cp) ?_
   rintro dQ ar ⟨_, dK, rfl, ah, am, dN⟩
   obtain ⟨ae, ag, af, rfl⟩ := am.form
   refine ⟨Zab (by kernel_rfl) (ZF), ?_⟩
   refine e_' (.slice Z ab aa) (e_' (.slice ae ag af) ?_)
   refine ZI ?_
   refine cW _ _ (sq_ fun cz => sq_ fun cA => ?_)
   obtain ⟨bt, bn, bw⟩ := bs_ dw
   refine ZC (fun α aX => Has α [(0, pt_ ak 0), (3, pt_ b2 0), (6, .slice Z ab aa), (7, .slice ae ag af), (24, i_ (ad.length : Int)), (25, i_ O), (49, .bool bt)] /\ ar = aX) (fun _ bo => ?_) (fun α aX hM => ?_)
   ·refine ZQ [0, 1, 2, 3, 4, 5, 6, 7, 9, 10, 11, 12, 13, 8, 14, 15] (by kernel_rfl) ?_
    refine e_' (.slice Z ab aa) ?_
    have dx := (aV.fr ah dn_)
    refine dx.sq.mn_ 75 (e_' (.slice ae ag af) (am.sq.mn_ 132 ?_))
    refine ZkX ((ac.length : Int) = (an.length : Int)) (by kernel_rfl) (fun aL => ?_) (fun aL => ?_)
    ·have c3 := Ze aL bn
     refine e_' (.bool false) (e_' (pt_ ak 0) (e_' (i_ O) (e_' (pt_ b2 0) ?_)))
     have bD := (bN.frS ah dn_)
     refine Zcb (aq) (x := aL_ 30 (pt_ b2 0) ar) (by kernel_rfl) (bD.l_) ?_
     refine e_' (i_ O) ?_
     obtain ⟨aK, c4⟩ := Zb c3
     have aW := (bO.fr ah dn_)
     refine aW.mx_ 30 aK av ?_
     refine Zcb (.bool (gt ad O)) (x := aL_ 4 (elp aq 1 O.toNat 0) ar) (by kernel_rfl) (aW.ld aK av (by kernel_rfl)) ?_
     have dy := ((bL.fr al dn_).fr ah dn_)
     have dz := ((bM.frS al dn_).frS ah dn_)
     obtain ⟨bP, cj, c5⟩ := bs_ c4
     refine dk_ (ZY ah.wf dy dz cj) ?_
     rintro _ _ ⟨rfl, rfl⟩
     refine ⟨ZaB (y := aL_ 4 (elp aq 1 O.toNat 0) ar) (by kernel_rfl) (aW.ld aK av (by kernel_rfl)) (ZaB (y := aL_ 30 (pt_ b2 0) ar) (by kernel_rfl) (bD.l_) (ZF)), ?_⟩
     refine e_' (.bool (!decide (bP = (gt ad O)))) (e_' (.bool (!decide (bP = (gt ad O)))) ?_)
     refine ZI ?_
     obtain rfl := oi_ c5
     exact bo _ _ ⟨ha_, rfl⟩
    have c6 := Zi aL bn
    refine e_' (.bool true) (j_' (j_' (j_' (j_' (j_' (j_' (j_' (j_' (j_' (e_' (.bool true) ?_))))))))))
    refine ZI ?_
    obtain rfl := oi_ c6
    exact bo _ _ ⟨ha_, rfl⟩
   obtain ⟨a_, rfl⟩ := hM
   obtain ⟨β, rfl⟩ := Zk a_
   clear a_
   refine cA _ _ ?_
   refine wb_ (bt) (fun aM => ?_) fun aM => ?_
   ·have c7 := Ze aM bw
    refine sq_ fun cB => g_' (q_ (.bool false) (Za (cB _ _ ?_)))
    refine Zg (Zh (ZN (Zh (Zh (ZN (Zh (Zh ?_)))))))
    obtain ⟨dR, bg, cq⟩ := map_some c7
    subst cq
    obtain rfl := Zx ax
    have b9 := elim_inl aB
    rw [b9] at bg
    refine br_ [.bool false] ?_
    obtain rfl := oi_ bg
    exact ⟨rfl, (fs_ D (fs_ D (fs_ D (fs_ D ((f0_ D).extR U) V in_) ai in_) al in_) ah in_)⟩
   have c8 := ZL aM bw
   refine Zf (cz _ _ (sq_ fun cC => g_' (q_ (.slice Z ab aa) ?_)))
   have ao := (aV.fr ah dn_)
   refine ao.sq.ln_ 75 (q_ (i_ 0) (Za (cC _ _ ?_)))
   obtain ⟨bR, ch, aG⟩ := bs_ c8
   refine ZC (fun α aY => ∃ bu, bR = Sum.inr bu /\ Has α [(0, pt_ ak 0), (3, pt_ b2 0), (24, i_ (ad.length : Int)), (25, i_ O)] /\ ar = aY) (fun _ cD => ?_) (fun α aY hM => ?_)
   ·refine Zm ?_
    obtain ⟨bq, b7⟩ := Zu.1 ch
    refine ZJ (fun n α aZ => ∃ (e : Int), ZR (fun zz_ => Zbc ac an zz_) n e = some bR /\ Has α [(0, pt_ ak 0), (3, pt_ b2 0), (6, .slice Z ab aa), (7, .slice ae ag af), (24, i_ (ad.length : Int)), (25, i_ O), (51, i_ (ac.length : Int)), (52, i_ e)] /\ ar = aZ) bq ⟨0, b7, ha_, rfl⟩ ?_
    rintro bq α aZ ⟨e, b5, bb, rfl⟩ dI cE
    obtain ⟨cZ, dH, rfl, az, ay⟩ := Zy b5
    obtain ⟨β, rfl⟩ := Zk bb
    clear bb
    replace az : Zbc ac an e = some dH := az
    unfold Zbc at az
    refine sq_ fun cF => g_' (q_ (.bool (decide (e < (ac.length : Int)))) (Za (cF _ _ (sq_ fun cG => ?_))))
    refine wc_ (e < (ac.length : Int)) (fun aj => ?_) fun aj => ?_
    ·have c9 := Ze aj az
     refine Zf (cG _ _ (sq_ fun cH => Zm (sq_ fun cI => g_' (q_ (i_ e) (q_ (i_ e) (Za (cI _ _ (sq_ fun aU => ?_))))))))
     refine ZQ [0, 1, 2, 3, 4, 5, 6, 7, 8, 9, 10, 11, 12, 13, 14, 15, 16, 17, 18, 19, 20, 21, 22, 23, 24, 25, 26, 27, 28, 29, 30, 31, 32, 33, 34, 35, 36] (by kernel_rfl) ?_
     refine e_' (.slice Z ab aa) (e_' (i_ e) ?_)
     obtain ⟨Y, c_⟩ := Zb c9
     refine ao.sq.mx_ 75 Y aj (m_' (elp (.slice Z ab aa) 3 e.toNat 0) (Zw Tryz.prog 80 (elp (.slice Z ab aa) 3 e.toNat 0) 0) (Sq.fldq (d := 0) ao.sq Y aj (by kernel_rfl)) (me_ 3 0 (i_ ((gt ac e).1)) ao.sq Y aj (e_' (.slice ae ag af) (e_' (i_ e) ?_))))
     obtain ⟨ap, bz⟩ := Zb c_
     refine am.sq.mx_ 132 Y ap (m_' (elp (.slice ae ag af) 3 e.toNat 0) (Zw Tryz.prog 134 (elp (.slice ae ag af) 3 e.toNat 0) 0) (Sq.fldq (d := 0) am.sq Y ap (by kernel_rfl)) (me_ 3 0 (i_ ((gt an e).1)) am.sq Y ap ?_))
     refine ZkX (((gt ac e).1) = ((gt an e).1)) (by kernel_rfl) (fun aN => ?_) (fun aN => ?_)
     ·have bA := Ze aN bz
      refine e_' (.bool false) (e_' (.slice Z ab aa) (e_' (i_ e) (ao.sq.mx_ 75 Y aj (m_' (elp (.slice Z ab aa) 3 e.toNat 1) (Zw Tryz.prog 80 (elp (.slice Z ab aa) 3 e.toNat 0) 1) (Sq.fldq (d := 1) ao.sq Y aj (by kernel_rfl)) (me_ 27 1 (.int .u64 ((gt ac e).2.1)) ao.sq Y aj (e_' (.slice ae ag af) (e_' (i_ e) (am.sq.mx_ 132 Y ap (m_' (elp (.slice ae ag af) 3 e.toNat 1) (Zw Tryz.prog 134 (elp (.slice ae ag af) 3 e.toNat 0) 1) (Sq.fldq (d := 1) am.sq Y ap (by kernel_rfl)) (me_ 27 1 (.int .u64 ((gt an e).2.1)) am.sq Y ap ?_))))))))))
      refine ZkX (((gt ac e).2.1) = ((gt an e).2.1)) (by kernel_rfl) (fun aO => ?_) (fun aO => ?_)
      ·have bB := Ze aO bA
       refine e_' (.bool false) (e_' (.bool false) (e_' (.slice Z ab aa) (e_' (i_ e) (ao.sq.mx_ 75 Y aj (m_' (elp (.slice Z ab aa) 3 e.toNat 2) (Zw Tryz.prog 80 (elp (.slice Z ab aa) 3 e.toNat 0) 2) (Sq.fldq (d := 2) ao.sq Y aj (by kernel_rfl)) (me_ 3 2 (i_ ((gt ac e).2.2)) ao.sq Y aj (e_' (.slice ae ag af) (e_' (i_ e) (am.sq.mx_ 132 Y ap (m_' (elp (.slice ae ag af) 3 e.toNat 2) (Zw Tryz.prog 134 (elp (.slice ae ag af) 3 e.toNat 0) 2) (Sq.fldq (d := 2) am.sq Y ap (by kernel_rfl)) (me_ 3 2 (i_ ((gt an e).2.2)) am.sq Y ap (e_' (.bool (!decide (((gt ac e).2.2) = ((gt an e).2.2)))) (e_' (.bool (!decide (((gt ac e).2.2) = ((gt an e).2.2)))) ?_)))))))))))))
       refine ZI ?_
       refine aU _ _ ?_
       refine Zde (((gt ac e).2.2) = ((gt an e).2.2)) (by kernel_rfl) rfl (fun aP => ?_) (fun aP => ?_)
       ·have da := Zi aP bB
        refine sq_ fun cJ => g_' (q_ (.bool false) (Za (cJ _ _ ?_)))
        refine Zg (ZN (Zh (Zh (ZN (Zh (ZN (Zh (Zh (ZN (Zh (Zh ?_)))))))))))
        obtain ⟨dS, bh, cr⟩ := map_some da
        subst cr
        obtain rfl := Zx ay
        have b_ := elim_inl aG
        rw [b_] at bh
        obtain ⟨dT, bi, cu⟩ := map_some bh
        subst cu
        obtain rfl := Zx ax
        have ca := elim_inl aB
        rw [ca] at bi
        refine br_ [.bool false] ?_
        obtain rfl := oi_ bi
        exact ⟨rfl, (fs_ D (fs_ D (fs_ D (fs_ D ((f0_ D).extR U) V in_) ai in_) al in_) ah in_)⟩
       have db := Ze aP bB
       refine Zf (cH _ _ (g_' ?_))
       obtain ⟨bY, dc⟩ := Zb db
       refine w_' ((e + 1)) (Zn (by have := bY; omega)) (q_ (i_ (e + 1)) (Za ?_))
       obtain rfl := oi_ dc
       exact cE cZ _ _ lt_ ⟨(e + 1), ay, ha_, rfl⟩
      have dd := Zi aO bA
      refine e_' (.bool true) (e_' (.bool true) (j_' (j_' (j_' (j_' (j_' (j_' (j_' (j_' (j_' (j_' (j_' (e_' (.bool true) ?_)))))))))))))
      refine ZI ?_
      refine aU _ _ ?_
      refine wb_ true (fun _ => ?_) fun h => by cases h
      refine sq_ fun cK => g_' (q_ (.bool false) (Za (cK _ _ ?_)))
      refine Zg (ZN (Zh (Zh (ZN (Zh (ZN (Zh (Zh (ZN (Zh (Zh ?_)))))))))))
      obtain ⟨dU, bj, cv⟩ := map_some dd
      subst cv
      obtain rfl := Zx ay
      have cc := elim_inl aG
      rw [cc] at bj
      obtain ⟨dV, bk, cw⟩ := map_some bj
      subst cw
      obtain rfl := Zx ax
      have cd := elim_inl aB
      rw [cd] at bk
      refine br_ [.bool false] ?_
      obtain rfl := oi_ bk
      exact ⟨rfl, (fs_ D (fs_ D (fs_ D (fs_ D ((f0_ D).extR U) V in_) ai in_) al in_) ah in_)⟩
     have de := Zi aN bz
     refine e_' (.bool true) (j_' (j_' (j_' (j_' (j_' (j_' (j_' (j_' (j_' (j_' (j_' (e_' (.bool true) (e_' (.bool true) (j_' (j_' (j_' (j_' (j_' (j_' (j_' (j_' (j_' (j_' (j_' (e_' (.bool true) ?_)))))))))))))))))))))))))
     refine ZI ?_
     refine aU _ _ ?_
     refine wb_ true (fun _ => ?_) fun h => by cases h
     refine sq_ fun cL => g_' (q_ (.bool false) (Za (cL _ _ ?_)))
     refine Zg (ZN (Zh (Zh (ZN (Zh (ZN (Zh (Zh (ZN (Zh (Zh ?_)))))))))))
     obtain ⟨dW, bl, cx⟩ := map_some de
     subst cx
     obtain rfl := Zx ay
     have ce := elim_inl aG
     rw [ce] at bl
     obtain ⟨dX, bm, cy⟩ := map_some bl
     subst cy
     obtain rfl := Zx ax
     have cf := elim_inl aB
     rw [cf] at bm
     refine br_ [.bool false] ?_
     obtain rfl := oi_ bm
     exact ⟨rfl, (fs_ D (fs_ D (fs_ D (fs_ D ((f0_ D).extR U) V in_) ai in_) al in_) ah in_)⟩
    have dg := Zi aj az
    refine ZK (Zj (Zj (ZV ?_)))
    obtain rfl := oi_ dg
    obtain rfl := Zx ay
    exact cD _ _ ⟨_, rfl, ha_, rfl⟩
   obtain ⟨bu, rfl, ba, rfl⟩ := hM
   have dh := elim_inr aG
   obtain ⟨β, rfl⟩ := Zk ba
   clear ba
   refine cU _ _ (g_' ?_)
   obtain ⟨bZ, di⟩ := Zb dh
   refine w_' ((O + 1)) (Zn bZ) (q_ (i_ (O + 1)) (Za ?_))
   obtain rfl := oi_ di
   exact cR c0 _ _ lt_ ⟨(O + 1), ax, ha_, (fs_ V.wf (fs_ V.wf (fs_ V.wf (fr_ V.wf) ai in_) al in_) ah in_)⟩
  have dk := Zi av aA
  refine ZK (Zj (Zj (ZV ?_)))
  obtain rfl := oi_ dk
  obtain rfl := Zx ax
  exact cQ _ _ ⟨_, rfl, trivial, (fs_ V.wf (fr_ V.wf) ai in_)⟩
 obtain ⟨bv, rfl, bd, bU⟩ := hM
 have dm := elim_inr aB
 obtain ⟨β, rfl⟩ := Zk bd
 clear bd
 refine cO _ _ (sq_ fun cM => g_' (q_ (.bool true) (Za (cM _ _ ?_))))
 refine Zg ?_
 refine br_ [.bool true] ?_
 obtain rfl := oi_ dm
 exact ⟨rfl, (fs_ D (fs_ D ((f0_ D).extR U) V in_) bU in_)⟩
theorem ZeB {H : AH} {aL : Value} {ca : Fp} {aY : Value} {cc : Fp} {aE : Int} {Arcs : List (Int × Int × Int)} {bC : List (Int × Int × Int × Int × Int)} {aB : Int} {ap : Int} {aq : Int} {ao : Int} {am : Int} {an : Int} {r : Bool}
    (e : WF H) (bg : Sq Zq 3 H aL Arcs ca) (cd : Sq Za8 5 H aY bC cc) (bi : Zaz aE Arcs bC aB ap aq ao am an = some r) :
    ACalls Tryz.prog 4 #[.agg #[i_ aE, aL], aY, i_ aB, .agg #[i_ ap, i_ aq, i_ ao, i_ am, i_ an]] H fun v H' => v = .bool r /\ FrS [] H H' := by
 refine ab_ Tryz.func4 ?_
 unfold Zaz at bi
 refine sq_ fun k1 => g_' ?_
 refine ZaG e [i_ aE, aL] (Zs (rfl) (Zs (bg.one1) (Z1))) (by kernel_rfl) fun b2 dR Z el di => ?_
 refine rl_ Z.wf [i_ ap, i_ aq, i_ ao, i_ am, i_ an] fun bW dX V ek a7 => ?_
 refine q_ (.bool false) (Za (k1 _ _ (sq_ fun cy => sq_ fun cz => g_' ?_)))
 obtain ⟨bS, cj, bv⟩ := bs_ bi
 refine ck_ (Zf1 V.wf cj) ?_
 rintro _ dK ⟨rfl, D⟩
 refine q_ (.bool (!bS)) (Za (cz _ _ ?_))
 refine wb_ ((!bS)) (fun aW => ?_) fun aW => ?_
 ·have c8 := Ze aW bv
  refine sq_ fun cF => g_' (q_ (.bool false) (Za (cF _ _ ?_)))
  refine Zg (Zh ?_)
  refine br_ [.bool false] ?_
  obtain rfl := oi_ c8
  exact ⟨rfl, (fs_ e (((f0_ e).extR Z).extR V) D in_)⟩
 have c9 := ZL aW bv
 refine Zf (cy _ _ (sq_ fun bl => g_' ?_))
 have dz := ((di.ext V).frS D dn_)
 refine lr_ 24 0 (.agg #[i_ aE, aL]) dz (q_ (aY) ?_)
 have bQ := (((bg.ext Z).ext V).fr D dn_)
 have bR := (((cd.ext Z).ext V).fr D dn_)
 obtain ⟨dF, bj, bA⟩ := bs_ c9
 rcases dF with eI | eJ
 ·have df := Zji bA
  refine ck_ (Zel D.wf bQ bR bj) ?_
  rintro _ dS ⟨rfl, aU⟩
  refine q_ (.tuple #[.pointer none, .agg #[.slice none 0 0, .slice none 0 0], .bool false]) (q_ (.pointer none) (q_ (.agg #[.slice none 0 0, .slice none 0 0]) (q_ (.bool false) ?_)))
  refine rk_ aU.wf [.slice none 0 0, .slice none 0 0] fun d1 dT bf ce dg => ?_
  refine q_ (.pointer none) ?_
  obtain ⟨dU, cV, b_, ez⟩ := ra_ 33 0 bf.wf dg [.slice none 0 0, .slice none 0 0] [.slice none 0 0, .slice none 0 0]
  refine ek_ cV (q_ (.bool false) (Za (bl _ _ (sq_ fun ew => sq_ fun cG => g_' (q_ (.bool false) (q_ (.bool true) (Za (cG _ _ ?_))))))))
  refine wb_ true (fun _ => ?_) fun h => by cases h
  refine sq_ fun cH => g_' (q_ (.bool true) (Za (cH _ _ ?_)))
  refine Zg (Zh ?_)
  refine br_ [.bool true] ?_
  have cS := (t_ (t_ (t_ Z.n V.n) D.n) aU.n)
  obtain rfl := oi_ df
  exact ⟨rfl, (fs_ e ((fs_ e (fs_ e (((f0_ e).extR Z).extR V) D in_) aU in_).extR bf) b_ (ce.fresh cS))⟩
 have dh := Zjh bA
 refine ck_ (Zel D.wf bQ bR bj) ?_
 rintro _ dV ⟨eD, ef, av, eE, eh, eF, ej, rfl, ab, aM, a6, aN, aO, es, et, eu, ev, d5, d6, d7, d8, d9, d_⟩
 obtain ⟨d0, ey, d3, rfl⟩ := aM.form
 obtain ⟨ar, az, aw, rfl⟩ := aN.form
 obtain ⟨au, aA, ax, rfl⟩ := aO.form
 refine q_ (.tuple #[pt_ av 0, .agg #[.slice ar az aw, .slice au aA ax], .bool true]) (q_ (pt_ av 0) (q_ (.agg #[.slice ar az aw, .slice au aA ax]) (q_ (.bool true) ?_)))
 refine rk_ ab.wf [.slice none 0 0, .slice none 0 0] fun bX dW ac ak bB => ?_
 refine q_ (pt_ av 0) ?_
 have dB := (aO.ext ac)
 have dC := (aN.ext ac)
 obtain ⟨dY, cW, aa, dk⟩ := ra_ 33 0 ac.wf bB [.slice ar az aw, .slice au aA ax] [.slice ar az aw, .slice au aA ax]
 refine ek_ cW (q_ (.bool true) (Za (bl _ _ (sq_ fun cu => sq_ fun cv => g_' (q_ (.bool true) (q_ (.bool false) (Za (cv _ _ ?_))))))))
 refine wb_ false (fun h => by cases h) fun _ => ?_
 refine Zf (cu _ _ (sq_ fun cw => g_' (q_ (pt_ av 0) (q_ (i_ aB) ?_))))
 have cJ := (t_ D.n ab.n)
 have bY := (ak.djn (a7.ltF.le cJ))
 have bD := ((((a7.frS D dn_).frS ab dn_).ext ac).frS aa bY)
 refine lr_ 53 0 (.agg #[i_ ap, i_ aq, i_ ao, i_ am, i_ an]) bD ?_
 have bE := ((aM.ext ac).fr aa (ak.djn aM.lt))
 have bF := ((a6.ext ac).frS aa (ak.djn a6.ltF))
 obtain ⟨eG, cg, cX⟩ := bs_ dh
 refine ck_ (Zed aa.wf bE bF cg) ?_
 rintro _ dG ⟨eA, ea, aS, eb, rfl, Y, a1, bm, em, eo, d4⟩
 obtain ⟨aF, aP, aH, rfl⟩ := a1.form
 refine q_ (.tuple #[.slice aF aP aH, aS]) (q_ (.slice aF aP aH) (q_ (aS) (q_ (.slice aF aP aH) (q_ (aS) (Za (cw _ _ (sq_ fun cx => g_' ?_)))))))
 have bG := (dk.frS Y dn_)
 refine lr_ 33 0 (.agg #[.slice ar az aw, .slice au aA ax]) bG (q_ (i_ aB) ?_)
 have bH := (bD.frS Y dn_)
 refine lr_ 53 0 (.agg #[i_ ap, i_ aq, i_ ao, i_ am, i_ an]) bH ?_
 have bI := ((dC.fr aa (ak.djn aN.lt)).fr Y dn_)
 have bJ := ((dB.fr aa (ak.djn aO.lt)).fr Y dn_)
 obtain ⟨aC, ch, cY⟩ := bs_ cX
 refine ck_ (ZdK Y.wf bI.sq bJ ch) ?_
 rintro _ dH ⟨eB, ec, rfl, O, a2, ep⟩
 obtain ⟨aG, aQ, aI, rfl⟩ := a2.form
 refine q_ (.tuple #[.slice aG aQ aI, .agg #[i_ aC.2, .slice none 0 0]]) (q_ (.slice aG aQ aI) (q_ (.agg #[i_ aC.2, .slice none 0 0]) ?_))
 refine rk_ O.wf [i_ 0, .slice none 0 0] fun bV dI ae ad bs => ?_
 refine q_ (.slice aG aQ aI) ?_
 obtain ⟨bU, cT, U, bt⟩ := ra_ 44 0 ae.wf bs [i_ aC.2, .slice none 0 0] [i_ aC.2, .slice none 0 0]
 refine ek_ cT (Za (cx _ _ (sq_ fun cA => sq_ fun cB => ?_)))
 obtain ⟨br, cf, bu⟩ := bs_ cY
 refine ZC (fun α a_ => Has α [(2, i_ aB), (7, pt_ bW 0), (9, pt_ av 0), (10, pt_ bX 0), (15, pt_ bV 0), (53, .bool br)] /\ FrS [] bU a_) (fun _ bk => ?_) (fun α a_ hM => ?_)
 ·refine g_' (q_ (.slice aF aP aH) ?_)
  have bZ := (ad.djn (a1.lt.le O.n))
  have dm := (((a1.fr O dn_).ext ae).fr U bZ)
  obtain ⟨eH, ci, cZ⟩ := bs_ cf
  refine ck_ (ZeL U.wf dm.sq ci) ?_
  rintro eC dJ ⟨_, ed, rfl, ay, bn, eq⟩
  obtain ⟨dZ, ex, d2, rfl⟩ := bn.form
  refine q_ (.slice aG aQ aI) ?_
  have dn := (((a2.ext ae).fr U (ad.djn a2.lt)).fr ay dn_)
  obtain ⟨dD, ck, bw⟩ := bs_ cZ
  refine ck_ (Zem ay.wf bn.sq dn.sq ck) ?_
  rintro _ _ ⟨rfl, rfl⟩
  by_cases aJ : dD = true
  ·have c0 := Ze aJ bw
   rw [aJ]
   refine q_ (.bool false) (q_ (.bool false) (q_ (aS) ?_))
   have dp := (bt.frS ay dn_)
   refine lr_ 44 0 (.agg #[i_ aC.2, .slice none 0 0]) dp ?_
   have b5 := (ad.djn (bm.lt.le O.n))
   have dq := ((((bm.fr O dn_).ext ae).fr U b5).fr ay dn_)
   obtain ⟨bT, cm, c3⟩ := bs_ c0
   refine ck_ (ZeE ay.wf dq (Sq.nil (enc := Zav) (sz := 2) (by decide)) cm) ?_
   rintro _ dL ⟨rfl, b8⟩
   refine q_ (.bool (!bT)) (q_ (.bool (!bT)) (Za ?_))
   obtain rfl := oi_ c3
   exact bk _ _ ⟨ha_, (fs_ U.wf (fs_ U.wf (fr_ U.wf) ay in_) b8 in_)⟩
  have c4 := Zi aJ bw
  rw [nb aJ]
  refine q_ (.bool true) (q_ (.bool true) (n_' (n_' (n_' (n_' (q_ (.bool true) (Za ?_)))))))
  obtain rfl := oi_ c4
  exact bk _ _ ⟨ha_, (fs_ U.wf (fr_ U.wf) ay in_)⟩
 obtain ⟨bh, af⟩ := hM
 obtain ⟨β, rfl⟩ := Zk bh
 clear bh
 refine cB _ _ ?_
 refine wb_ (br) (fun aV => ?_) fun aV => ?_
 ·have c5 := Ze aV bu
  refine sq_ fun cC => g_' (q_ (.bool false) (Za (cC _ _ ?_)))
  refine Zg (Zh ?_)
  refine br_ [.bool false] ?_
  have cK := (t_ (t_ (t_ Z.n V.n) D.n) ab.n)
  have cL := (t_ (t_ (t_ (t_ (t_ (t_ (t_ Z.n V.n) D.n) ab.n) ac.n) aa.n) Y.n) O.n)
  obtain rfl := oi_ c5
  exact ⟨rfl, (fs_ e (fs_ e ((fs_ e (fs_ e (fs_ e ((fs_ e (fs_ e (((f0_ e).extR Z).extR V) D in_) ab in_).extR ac) aa (ak.fresh cK)) Y in_) O in_).extR ae) U (ad.fresh cL)) af in_)⟩
 have c6 := ZL aV bu
 refine Zf (cA _ _ (sq_ fun cD => g_' (q_ (pt_ av 0) (q_ (i_ aB) ?_))))
 have cM := (t_ (t_ (t_ (t_ (t_ D.n ab.n) ac.n) aa.n) Y.n) O.n)
 have b6 := (ad.djn (a7.ltF.le cM))
 have bK := ((((bH.frS O dn_).ext ae).frS U b6).frS af dn_)
 refine lr_ 53 0 (.agg #[i_ ap, i_ aq, i_ ao, i_ am, i_ an]) bK ?_
 have aR := (t_ (t_ (t_ ac.n aa.n) Y.n) O.n)
 have ba := (ad.djn (aM.lt.le aR))
 have bL := (((((bE.fr Y dn_).fr O dn_).ext ae).fr U ba).fr af dn_)
 have bb := (ad.djn (a6.ltF.le aR))
 have bM := (((((bF.frS Y dn_).frS O dn_).ext ae).frS U bb).frS af dn_)
 obtain ⟨aD, cn, c7⟩ := bs_ c6
 refine ck_ (Zgd af.wf bL bM cn) ?_
 rintro _ dM ⟨aT, ee, rfl, ag, cI, cr⟩
 refine q_ (.tuple #[i_ aD.1, aT]) (q_ (i_ aD.1) (q_ (aT) (q_ (i_ aD.1) (q_ (aT) (Za (cD _ _ (sq_ fun cE => g_' ?_)))))))
 have cN := (t_ (t_ aa.n Y.n) O.n)
 have bc := (ad.djn (bB.ltF.le cN))
 have bN := (((((bG.frS O dn_).ext ae).frS U bc).frS af dn_).frS ag dn_)
 refine lr_ 33 0 (.agg #[.slice ar az aw, .slice au aA ax]) bN (q_ (i_ aB) ?_)
 have dr := (bK.frS ag dn_)
 refine lr_ 53 0 (.agg #[i_ ap, i_ aq, i_ ao, i_ am, i_ an]) dr ?_
 have bd := (ad.djn (aN.lt.le aR))
 have bO := (((((bI.fr O dn_).ext ae).fr U bd).fr af dn_).fr ag dn_)
 have be := (ad.djn (aO.lt.le aR))
 have bP := (((((bJ.fr O dn_).ext ae).fr U be).fr af dn_).fr ag dn_)
 obtain ⟨aj, co, bx⟩ := bs_ c7
 refine ck_ (Zfu ag.wf bO.sq bP co) ?_
 rintro _ dN ⟨rfl, ah⟩
 refine q_ (.tuple #[i_ aj.1, .agg #[i_ aj.2, .slice none 0 0]]) (q_ (i_ aj.1) (q_ (.agg #[i_ aj.2, .slice none 0 0]) (q_ (i_ aj.1) ?_)))
 have dt := (((bt.frS af dn_).frS ag dn_).frS ah dn_)
 obtain ⟨dO, cU, ai, c_⟩ := ra_ 44 0 ah.wf dt [i_ aj.2, .slice none 0 0] [i_ aj.2, .slice none 0 0]
 refine ek_ cU (Za (cE _ _ (sq_ fun aZ => g_' (q_ (i_ aD.1) (q_ (i_ aj.1) ?_)))))
 refine sb_ (aD.1 = aj.1) (fun aX => ?_) fun aX => ?_
 ·have da := Ze aX bx
  refine q_ (.bool true) (q_ (aT) (lr_ 44 0 (.agg #[i_ aj.2, .slice none 0 0]) c_ ?_))
  have cO := (t_ U.n af.n)
  have b7 := (cr.djn (bs.ltF.le cO))
  have du := ((cI.fr ah dn_).fr ai (Dj.symm b7))
  obtain ⟨dE, cp, bz⟩ := bs_ da
  refine ck_ (ZeE ai.wf du (Sq.nil (enc := Zav) (sz := 2) (by decide)) cp) ?_
  rintro _ dP ⟨rfl, al⟩
  by_cases aK : dE = true
  ·have db := Ze aK bz
   rw [aK]
   refine q_ (.bool true) (q_ (.bool true) (q_ (pt_ av 0) ?_))
   have dv := (((bN.frS ah dn_).frS ai bc).frS al dn_)
   refine lr_ 33 0 (.agg #[.slice ar az aw, .slice au aA ax]) dv ?_
   have dw := ((((bL.fr ag dn_).fr ah dn_).fr ai ba).fr al dn_)
   have dx := ((((bM.frS ag dn_).frS ah dn_).frS ai bb).frS al dn_)
   have dy := (((bO.fr ah dn_).fr ai bd).fr al dn_)
   have dA := (((bP.fr ah dn_).fr ai be).fr al dn_)
   obtain ⟨a8, cq, dc⟩ := bs_ db
   refine ck_ (Zgi al.wf dw dx dy.sq dA cq) ?_
   rintro _ dQ ⟨rfl, b9⟩
   refine q_ (.bool a8) (q_ (.bool a8) (Za (aZ _ _ ?_)))
   refine Zg ?_
   refine br_ [.bool a8] ?_
   have cP := (t_ (t_ (t_ Z.n V.n) D.n) ab.n)
   have bo := (t_ (t_ (t_ (t_ (t_ (t_ (t_ Z.n V.n) D.n) ab.n) ac.n) aa.n) Y.n) O.n)
   obtain rfl := oi_ dc
   exact ⟨rfl, (fs_ e (fs_ e (fs_ e (fs_ e (fs_ e (fs_ e (fs_ e ((fs_ e (fs_ e (fs_ e ((fs_ e (fs_ e (((f0_ e).extR Z).extR V) D in_) ab in_).extR ac) aa (ak.fresh cP)) Y in_) O in_).extR ae) U (ad.fresh bo)) af in_) ag in_) ah in_) ai (ad.fresh bo)) al in_) b9 in_)⟩
  have dd := Zi aK bz
  rw [nb aK]
  refine q_ (.bool false) (q_ (.bool false) (n_' (n_' (n_' (q_ (.bool false) (q_ (.bool false) (Za (aZ _ _ ?_))))))))
  refine Zg ?_
  refine br_ [.bool false] ?_
  have cQ := (t_ (t_ (t_ Z.n V.n) D.n) ab.n)
  have bp := (t_ (t_ (t_ (t_ (t_ (t_ (t_ Z.n V.n) D.n) ab.n) ac.n) aa.n) Y.n) O.n)
  obtain rfl := oi_ dd
  exact ⟨rfl, (fs_ e (fs_ e (fs_ e (fs_ e (fs_ e (fs_ e ((fs_ e (fs_ e (fs_ e ((fs_ e (fs_ e (((f0_ e).extR Z).extR V) D in_) ab in_).extR ac) aa (ak.fresh cQ)) Y in_) O in_).extR ae) U (ad.fresh bp)) af in_) ag in_) ah in_) ai (ad.fresh bp)) al in_)⟩
 have de := Zi aX bx
 refine q_ (.bool false) (n_' (n_' (n_' (q_ (.bool false) (q_ (.bool false) (n_' (n_' (n_' (q_ (.bool false) (q_ (.bool false) (Za (aZ _ _ ?_))))))))))))
 refine Zg ?_
 refine br_ [.bool false] ?_
 have cR := (t_ (t_ (t_ Z.n V.n) D.n) ab.n)
 have bq := (t_ (t_ (t_ (t_ (t_ (t_ (t_ Z.n V.n) D.n) ab.n) ac.n) aa.n) Y.n) O.n)
 obtain rfl := oi_ de
 exact ⟨rfl, (fs_ e (fs_ e (fs_ e (fs_ e (fs_ e ((fs_ e (fs_ e (fs_ e ((fs_ e (fs_ e (((f0_ e).extR Z).extR V) D in_) ab in_).extR ac) aa (ak.fresh cR)) Y in_) O in_).extR ae) U (ad.fresh bq)) af in_) ag in_) ah in_) ai (ad.fresh bq))⟩
end Go.Vd
