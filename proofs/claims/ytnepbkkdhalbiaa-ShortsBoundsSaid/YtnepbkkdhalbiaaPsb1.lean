/- The walks of the functions (printed by a program of ours). -/
import Derived.Test.YtnepbkkdhalbiaaPsb0
import Derived.Test.YtnepbkkdhalbiaaPsbVeC
import Derived.Test.YtnepbkkdhalbiaaPsbISb
import Derived.Test.YtnepbkkdhalbiaaPsbVeN
import Derived.Test.YtnepbkkdhalbiaaPsbSoA
import Derived.Test.YtnepbkkdhalbiaaPsbVeV
set_option linter.unusedVariables false
set_option linter.unusedSimpArgs false
set_option linter.unusedSectionVars false
/-! (KSb0) -/

set_option maxRecDepth 100000
set_option maxHeartbeats 4000000
set_option linter.unusedVariables false
namespace Go.Vd
open Go.Proofs
attribute [local irreducible] Zm Zp aWp
set_option linter.unusedSimpArgs false
theorem Zeo {α : Type} (P : Program) (a : α) : pr P (pure a : Sem α) = some a := rfl
theorem Znr {P : Program} : pr P (program : Sem Program) = some P := rfl
theorem Zkh {P : Program} {t : TypeId} {d : TypeDesc} (h : P.underlying t = some d) : pr P (underlying t) = some d := by
  simp only [underlying, Zbg]
  show ((pr P (program : Sem Program)).bind _) = _
  simp [show pr P (program : Sem Program) = some P from rfl, h]
  rfl
theorem Zkk {P : Program} (d : Nat) (t : TypeId) (k : IntKind) (h : P.underlying t = some (.int k)) (a c : Int) : pr P (Op.equalIn (d+1) t (.int k a) (.int k c)) = some (a == c) := by
  simp only [Op.equalIn, Zbg, Zkh h]
  simp [Zeo]
theorem e_bool {P : Program} (d : Nat) (t : TypeId) (h : P.underlying t = some .bool) (a c : Bool) : pr P (Op.equalIn (d+1) t (.bool a) (.bool c)) = some (a == c) := by
  simp only [Op.equalIn, Zbg, Zkh h]
  simp [Zeo]
theorem Zga (a0 : Int) (e : Int) (O : Int) : pr Try.prog (part 3 #[i_ a0, i_ e, .int .u64 O] 0) = some (i_ a0) := by kernel_rfl
theorem Zgb (a c : Int) : pr Try.prog (Op.equalIn 9999 3 (i_ a) (i_ c)) = some (a == c) := Zkk 9998 3 .i64 Go.Proofs.Try.underlying3 a c
theorem Zgp (a0 : Int) (e : Int) (O : Int) : pr Try.prog (part 3 #[i_ a0, i_ e, .int .u64 O] 1) = some (i_ e) := by kernel_rfl
theorem Zgm (a c : Int) : pr Try.prog (Op.equalIn 9999 3 (i_ a) (i_ c)) = some (a == c) := Zkk 9998 3 .i64 Go.Proofs.Try.underlying3 a c
theorem Zf5 (a0 : Int) (O : Int) (e : Int) : pr Try.prog (part 27 #[i_ a0, i_ O, .int .u64 e] 2) = some (.int .u64 e) := by kernel_rfl
theorem Zgy (a c : Int) : pr Try.prog (Op.equalIn 9999 27 (.int .u64 a) (.int .u64 c)) = some (a == c) := Zkk 9998 27 .u64 Go.Proofs.Try.underlying27 a c
theorem Zlk : Try.prog.stoodInHeld 60 = false := by kernel_rfl
theorem Zk8 (a0 : Int) (e : Int) (O : Int) (U : Int) (c1 : Int) (c2 : Int) : pr Try.prog (Op.equalIn Op.maxDepth 60 (.agg #[i_ a0, i_ e, .int .u64 O]) (.agg #[i_ U, i_ c1, .int .u64 c2])) = some (a0 == U && e == c1 && O == c2) := by
  rw [show Op.maxDepth = 9998 + 1 + 1 from rfl, Op.equalIn]
  rw [Zbg, Zkh Go.Proofs.Try.underlying60]
  simp only [Option.bind_some, Zbg, Znr, Zlk, Bool.false_eq_true, if_false]
  simp [Zbg, Zga, Zgp, Zf5, Zgb, Zgm, Zgy]
  by_cases h0 : a0 = U
  · subst h0
    by_cases V : e = c1
    · subst V
      by_cases Y : O = c2
      · subst Y
        simp [Zeo, Zbg, Zga, Zgp, Zf5, Zgb, Zgm, Zgy]
      · simp [Zeo, Zbg, Zga, Zgp, Zf5, Zgb, Zgm, Zgy, Y]
    · simp [Zeo, Zbg, Zga, Zgp, Zf5, Zgb, Zgm, Zgy, V]
  · simp [Zeo, Zbg, Zga, Zgp, Zf5, Zgb, Zgm, Zgy, h0]
theorem ZlR (x y : Operand) (a0 : Int) (e : Int) (O : Int) (U : Int) (c1 : Int) (c2 : Int) : pr Try.prog (eqGuard .neq 60 x y (.agg #[i_ a0, i_ e, .int .u64 O]) (.agg #[i_ U, i_ c1, .int .u64 c2])) = some () := by kernel_rfl
theorem Zkn (x y : Operand) (a0 : Int) (e : Int) (O : Int) (U : Int) (c1 : Int) (c2 : Int) : ZcD Try.prog .neq 60 x y (.agg #[i_ a0, i_ e, .int .u64 O]) (.agg #[i_ U, i_ c1, .int .u64 c2]) = some (.bool (!decide (a0 = U /\ e = c1 /\ O = c2))) := by
  unfold ZcD
  rw [if_pos (show (plain (.agg #[i_ a0, i_ e, .int .u64 O]) && plain (.agg #[i_ U, i_ c1, .int .u64 c2])) = true from rfl), Zbg, ZlR]
  have : pr Try.prog (binOp .neq 60 (.agg #[i_ a0, i_ e, .int .u64 O]) (.agg #[i_ U, i_ c1, .int .u64 c2])) = some (.bool (!decide (a0 = U /\ e = c1 /\ O = c2))) := by
    simp only [binOp, Op.equal, Zbg, Zk8]
    by_cases V : a0 = U <;> by_cases Y : e = c1 <;> by_cases aa : O = c2 <;> simp [Zeo, V, Y, aa]
  simp only [Option.bind_some, this]
  rfl
theorem ZlT (x y : Operand) (a0 : Int) (e : Int) (O : Int) (U : Int) (c1 : Int) (c2 : Int) : pr Try.prog (eqGuard .eql 60 x y (.agg #[i_ a0, i_ e, .int .u64 O]) (.agg #[i_ U, i_ c1, .int .u64 c2])) = some () := by kernel_rfl
theorem Zky (x y : Operand) (a0 : Int) (e : Int) (O : Int) (U : Int) (c1 : Int) (c2 : Int) : ZcD Try.prog .eql 60 x y (.agg #[i_ a0, i_ e, .int .u64 O]) (.agg #[i_ U, i_ c1, .int .u64 c2]) = some (.bool (decide (a0 = U /\ e = c1 /\ O = c2))) := by
  unfold ZcD
  rw [if_pos (show (plain (.agg #[i_ a0, i_ e, .int .u64 O]) && plain (.agg #[i_ U, i_ c1, .int .u64 c2])) = true from rfl), Zbg, ZlT]
  have : pr Try.prog (binOp .eql 60 (.agg #[i_ a0, i_ e, .int .u64 O]) (.agg #[i_ U, i_ c1, .int .u64 c2])) = some (.bool (decide (a0 = U /\ e = c1 /\ O = c2))) := by
    simp only [binOp, Op.equal, Zbg, Zk8]
    by_cases V : a0 = U <;> by_cases Y : e = c1 <;> by_cases aa : O = c2 <;> simp [Zeo, V, Y, aa]
  simp only [Option.bind_some, this]
  rfl
theorem ZeU : evB Try.prog 100000 10 #[] = some true := by kernel_rfl
theorem ZfB {H : AH} : ACalls Try.prog 10 #[] H fun v H' => H = H' /\ v = .bool true :=
  (Zj9 mixed ZeU rfl H).mono fun _ _ ⟨a, b⟩ => ⟨b.symm, a⟩
theorem Za8 {H : AH} {e : Int} {r : Int}
    (O : WF H) (V : Zam e = some r) :
    ACalls Try.prog 51 #[i_ e] H fun v H' => v = .agg #[i_ r, .slice none 0 0] /\ FrS [] H H' := by
 refine ab_ Try.func51 ?_
 unfold Zam at V
 refine sq_ fun k1 => g_' ?_
 refine rk_ O [i_ 0, .slice none 0 0] fun b2 ag U ab af => ?_
 refine Za (k1 _ _ (sq_ fun ac => g_' (q_ (i_ e) (q_ (.agg #[i_ e, .slice none 0 0]) ?_))))
 obtain ⟨Y, ad, aa, ae⟩ := ra_ 79 0 U.wf af [i_ e, .slice none 0 0] [i_ e, .slice none 0 0]
 refine ek_ ad (Za (ac _ _ ?_))
 refine Zg ?_
 refine Zan (vs := [.agg #[i_ e, .slice none 0 0]]) (ZQ (Eq.trans (b := aL_ 79 (pt_ b2 0) Y) (by kernel_rfl) (ae.l_)) (rfl)) ?_
 obtain rfl := oi_ V
 exact ⟨rfl, (fs_ O ((f0_ O).extR U) aa (ab.fresh (Nat.le_refl _)))⟩
theorem Zew {H : AH} {af : Value} {aF : Fp} {ad : Int} {at_ : Int} {e : Int} {ai : List (Int × Int)} {r : Int × List (Int × Int)}
    (ah : WF H) (ao : Sq Zbv 2 H af ai aF) (au : ZbI ad at_ e ai = some r) :
    ACalls Try.prog 57 #[i_ ad, i_ at_, .agg #[i_ e, af]] H fun v H' => ∃ (ay : Value) (an : Fp), v = .agg #[i_ r.1, ay] /\ FrS [] H H' /\ Ow Zbv 2 H' ay r.2 an /\ Inn [] H an := by
 refine ab_ Try.func57 ?_
 unfold ZbI at au
 refine sq_ fun aL => g_' ?_
 refine ZbJ ah [i_ e, af] (Zy (rfl) (Zy (ao.one1) (Zau))) (by kernel_rfl) fun ak aY ab aZ ax => ?_
 refine rk_ ab.wf [i_ 0, .slice none 0 0] fun aB aV Y aH ag => ?_
 refine Za (aL _ _ (sq_ fun aI => g_' (q_ (i_ ad) (q_ (i_ at_) (q_ (.agg #[i_ ad, i_ at_]) ?_)))))
 refine Zb9 (enc := Zbv) (sz := 2) Y.wf [(ad, at_)] 1 (by decide) (fun _ _ => rfl) (fun _ _ => rfl) rfl (by kernel_rfl) fun a1 f21 aW aa ac aq => ?_
 obtain ⟨aj, av, al, rfl⟩ := aq.form
 refine q_ (.slice aj av al) (Za (aI _ _ (sq_ fun aJ => g_' (q_ (.slice aj av al) (q_ (pt_ ak 1) ?_)))))
 have az := ((ax.ext Y).ext aa)
 refine lr_ 77 1 (af) az ?_
 obtain ⟨aG, aP⟩ := Zb au
 have aR := (((ao.ext ab).ext Y).ext aa)
 obtain ⟨a2, aX, aE, aN, ae, ar, ap⟩ := Ow.append (P := Try.prog) 16 aa.wf aq aR (fun _ _ => rfl) (at_ := #[77, 77]) rfl rfl (by kernel_rfl) (by kernel_rfl) (by decide) (by have := aG; first | omega | (simp only [List.length_cons, List.length_nil] at this ⊢; omega) | (simp at this ⊢; omega))
 obtain ⟨O, V, U, rfl⟩ := ar.form
 refine ZaY (.slice O V U) (by kernel_rfl) (aN) ?_
 refine q_ (.slice O V U) (Za (aJ _ _ (sq_ fun aK => g_' (q_ (pt_ ak 0) ?_))))
 have aC := (ac.djn (ax.ltF.le Y.n))
 have aS := (az.frS ae aC)
 refine lr_ 3 0 (i_ e) aS (q_ (.slice O V U) (q_ (.agg #[i_ e, .slice O V U]) ?_))
 have aT := ((ag.ext aa).frS ae (ac.djn ag.ltF))
 obtain ⟨aA, aO, am, aQ⟩ := ra_ 79 0 ae.wf aT [i_ e, .slice O V U] [i_ e, .slice O V U]
 refine ek_ aO (Za (aK _ _ ?_))
 refine Zg ?_
 refine Zan (vs := [.agg #[i_ e, .slice O V U]]) (ZQ (Eq.trans (b := aL_ 79 (pt_ aB 0) aA) (by kernel_rfl) (aQ.l_)) (rfl)) ?_
 have aw := (t_ ab.n Y.n)
 have aD := (ap.dj (ac.djn ag.ltF) (ag.ltF.le aa.n))
 have aU := (ar.fr am (Dj.symm aD))
 have aM := (t_ (t_ ab.n Y.n) aa.n)
 obtain rfl := oi_ aP
 exact ⟨(.slice O V U), aE, rfl, (fs_ ah (fs_ ah ((((f0_ ah).extR ab).extR Y).extR aa) ae (ac.fresh aw)) am (aH.fresh ab.n)), aU, (Inn.trans (ac.fresh aw) aM ap)⟩
theorem Zdv {H : AH} {af : Value} {bU : Fp} {aa : Int} {Arcs : List (Int × Int × Int)} {r : Int × List (Int × Int)}
    (V : WF H) (aN : Sq Zq 3 H af Arcs bU) (be : ZaA aa Arcs = some r) :
    ACalls Try.prog 44 #[.agg #[i_ aa, af]] H fun v H' => ∃ (bB : Value) (a7 : Fp), v = .agg #[i_ r.1, bB] /\ FrS [] H H' /\ Ow Zbv 2 H' bB r.2 a7 /\ Inn [] H a7 := by
 refine ab_ Try.func44 ?_
 unfold ZaA at be
 refine sq_ fun cn => g_' ?_
 refine ZbJ V [i_ aa, af] (Zy (rfl) (Zy (aN.one1) (Zau))) (by kernel_rfl) fun ad dx Y dA aP => ?_
 refine rk_ Y.wf [i_ 0, .slice none 0 0] fun ae az O au ag => ?_
 refine Za (cn _ _ (sq_ fun cg => sq_ fun ch => ?_))
 obtain ⟨br, bi, bx⟩ := bs_ be
 refine ZC (fun α aW => Has α [(1, pt_ ad 0), (2, pt_ ae 0), (18, .bool br)] /\ az = aW) (fun _ aO => ?_) (fun α aW hM => ?_)
 ·refine g_' (q_ (pt_ ad 0) ?_)
  have aR := (aP.ext O)
  refine lr_ 3 0 (i_ aa) aR ?_
  refine sb_ (aa < 0) (fun aK => ?_) fun aK => ?_
  ·have c7 := Ze aK bi
   refine q_ (.bool true) (n_' (n_' (n_' (q_ (.bool true) (q_ (.bool true) (n_' (n_' (n_' (n_' (q_ (.bool true) (Za ?_)))))))))))
   obtain rfl := oi_ c7
   exact aO _ _ ⟨ha_, rfl⟩
  have bz := Zi aK bi
  refine q_ (.bool false) (q_ (pt_ ad 0) (lr_ 3 0 (i_ aa) aR ?_))
  refine sb_ (aa > 65536) (fun aL => ?_) fun aL => ?_
  ·have c8 := Ze aL bz
   refine q_ (.bool true) (q_ (.bool true) (n_' (n_' (n_' (n_' (q_ (.bool true) (Za ?_)))))))
   obtain rfl := oi_ c8
   exact aO _ _ ⟨ha_, rfl⟩
  have c9 := Zi aL bz
  refine q_ (.bool false) (q_ (.bool false) (q_ (pt_ ad 1) (lr_ 22 1 (af) aR ?_)))
  have dn := ((aN.ext Y).ext O)
  refine dn.ln_ 22 (q_ (.bool (decide ((Arcs.length : Int) > 262144))) (q_ (.bool (decide ((Arcs.length : Int) > 262144))) (Za ?_)))
  obtain rfl := oi_ c9
  exact aO _ _ ⟨ha_, rfl⟩
 obtain ⟨bb, rfl⟩ := hM
 obtain ⟨β, rfl⟩ := Zh bb
 clear bb
 refine ch _ _ ?_
 refine wb_ (br) (fun aM => ?_) fun aM => ?_
 ·have c_ := Ze aM bx
  refine sq_ fun cj => g_' ?_
  obtain ⟨aU, b_, da⟩ := bs_ c_
  refine ck_ (Za8 O.wf b_) ?_
  rintro _ dw ⟨rfl, aC⟩
  have dp := (ag.frS aC dn_)
  obtain ⟨bK, cJ, bR, db⟩ := ra_ 79 0 aC.wf dp [i_ aU, .slice none 0 0] [i_ aU, .slice none 0 0]
  refine ek_ cJ (Za (cj _ _ ?_))
  refine Zg (Zn ?_)
  refine Zan (vs := [.agg #[i_ aU, .slice none 0 0]]) (ZQ (Eq.trans (b := aL_ 79 (pt_ ae 0) bK) (by kernel_rfl) (db.l_)) (rfl)) ?_
  obtain rfl := oi_ da
  exact ⟨(.slice none 0 0), [], rfl, (fs_ V (fs_ V (((f0_ V).extR Y).extR O) aC in_) bR (au.fresh Y.n)), (Ow.nil (by decide)), in_⟩
 have dc := ZK aM bx
 refine Zf (cg _ _ (sq_ fun ck => sq_ fun cm => g_' (q_ (pt_ ad 1) ?_)))
 have bD := (aP.ext O)
 refine lr_ 22 1 (af) bD ?_
 have bE := ((aN.ext Y).ext O)
 refine bE.ln_ 22 (q_ (i_ 0) (Za (cm _ _ ?_)))
 obtain ⟨bG, b5, aQ⟩ := bs_ dc
 refine ZC (fun α aX => ∃ bs, bG = Sum.inr bs /\ Has α [(2, pt_ ae 0)] /\ FrS [] az aX) (fun _ co => ?_) (fun α aX hM => ?_)
 ·refine Zk ?_
  obtain ⟨bp, bX⟩ := Zv.1 b5
  refine ZJ (fun n α aY => ∃ (e : Int), ZN (fun zz_ => ZaD aa Arcs zz_) n e = some bG /\ Has α [(1, pt_ ad 0), (2, pt_ ae 0), (21, af), (22, i_ (Arcs.length : Int)), (23, i_ e)] /\ FrS [] az aY) bp ⟨0, bX, ha_, (fr_ O.wf)⟩ ?_
  rintro bp α aY ⟨e, bW, bd, U⟩ dz cp
  obtain ⟨cF, dq, rfl, an, av⟩ := Zx bW
  obtain ⟨β, rfl⟩ := Zh bd
  clear bd
  replace an : ZaD aa Arcs e = some dq := an
  unfold ZaD at an
  refine sq_ fun cq => g_' (q_ (.bool (decide (e < (Arcs.length : Int)))) (Za (cq _ _ (sq_ fun cr => ?_))))
  refine wc_ (e < (Arcs.length : Int)) (fun am => ?_) fun am => ?_
  ·have dd := Ze am an
   refine Zf (cr _ _ (sq_ fun cu => Zk (sq_ fun cv => g_' (q_ (i_ e) ?_))))
   obtain ⟨a8, de⟩ := Zb dd
   have bF := (bE.fr U dn_)
   refine bF.ix_ 22 a8 am (le_ 118 0 (.agg #[i_ ((gt Arcs e).1), i_ ((gt Arcs e).2.1), i_ ((gt Arcs e).2.2)]) bF a8 am ?_)
   refine rk_ U.wf [i_ 0, i_ 0, i_ 0] fun ah dy ac ai df => ?_
   refine q_ (i_ e) ?_
   obtain ⟨aZ, cK, ab, aj⟩ := ra_ 118 0 ac.wf df [i_ ((gt Arcs e).1), i_ ((gt Arcs e).2.1), i_ ((gt Arcs e).2.2)] [i_ ((gt Arcs e).1), i_ ((gt Arcs e).2.1), i_ ((gt Arcs e).2.2)]
   refine ek_ cK (Za (cv _ _ (sq_ fun cw => sq_ fun cx => ?_)))
   obtain ⟨bt, bj, bA⟩ := bs_ de
   refine ZC (fun α a1 => Has α [(1, pt_ ad 0), (2, pt_ ae 0), (3, i_ e), (4, pt_ ah 0), (21, af), (22, i_ (Arcs.length : Int)), (23, i_ e), (49, .bool bt)] /\ aZ = a1) (fun _ aw => ?_) (fun α a1 hM => ?_)
   ·refine g_' (q_ (pt_ ah 0) (lr_ 3 0 (i_ ((gt Arcs e).1)) aj ?_))
    refine sb_ (((gt Arcs e).1) < 0) (fun aE => ?_) fun aE => ?_
    ·have cL := Ze aE bj
     refine q_ (.bool true) (n_' (n_' (n_' (n_' (n_' (q_ (.bool true) (q_ (.bool true) (n_' (n_' (n_' (q_ (.bool true) (q_ (.bool true) (n_' (n_' (n_' (n_' (n_' (q_ (.bool true) (Za ?_)))))))))))))))))))
     obtain rfl := oi_ cL
     exact aw _ _ ⟨ha_, rfl⟩
    have bu := Zi aE bj
    refine q_ (.bool false) (q_ (pt_ ah 0) (lr_ 3 0 (i_ ((gt Arcs e).1)) aj (q_ (pt_ ad 0) ?_)))
    have cy := (t_ O.n U.n)
    have bL := (ai.djn (aP.ltF.le cy))
    have bC := (((bD.frS U dn_).ext ac).frS ab bL)
    refine lr_ 3 0 (i_ aa) bC ?_
    refine sb_ (((gt Arcs e).1) ≥ aa) (fun aF => ?_) fun aF => ?_
    ·have cM := Ze aF bu
     refine q_ (.bool true) (q_ (.bool true) (n_' (n_' (n_' (q_ (.bool true) (q_ (.bool true) (n_' (n_' (n_' (n_' (n_' (q_ (.bool true) (Za ?_)))))))))))))
     obtain rfl := oi_ cM
     exact aw _ _ ⟨ha_, rfl⟩
    have bv := Zi aF bu
    refine q_ (.bool false) (q_ (.bool false) (q_ (pt_ ah 1) (lr_ 3 1 (i_ ((gt Arcs e).2.1)) aj ?_)))
    refine sb_ (((gt Arcs e).2.1) < 0) (fun aG => ?_) fun aG => ?_
    ·have cN := Ze aG bv
     refine q_ (.bool true) (q_ (.bool true) (n_' (n_' (n_' (n_' (n_' (q_ (.bool true) (Za ?_))))))))
     obtain rfl := oi_ cN
     exact aw _ _ ⟨ha_, rfl⟩
    have cO := Zi aG bv
    refine q_ (.bool false) (q_ (.bool false) (q_ (pt_ ah 1) (lr_ 3 1 (i_ ((gt Arcs e).2.1)) aj (q_ (pt_ ad 0) (lr_ 3 0 (i_ aa) bC (q_ (.bool (decide (((gt Arcs e).2.1) ≥ aa))) (q_ (.bool (decide (((gt Arcs e).2.1) ≥ aa))) (Za ?_))))))))
    obtain rfl := oi_ cO
    exact aw _ _ ⟨ha_, rfl⟩
   obtain ⟨a_, rfl⟩ := hM
   obtain ⟨β, rfl⟩ := Zh a_
   clear a_
   refine cx _ _ ?_
   refine wb_ (bt) (fun aH => ?_) fun aH => ?_
   ·have cP := Ze aH bA
    refine sq_ fun cd => g_' (q_ (i_ e) ?_)
    obtain ⟨dF, b6, cQ⟩ := bs_ cP
    refine ck_ (Za8 ab.wf b6) ?_
    rintro _ dr ⟨rfl, ak⟩
    obtain ⟨aS, b7, cR⟩ := bs_ cQ
    refine ck_ (Zew ak.wf (Sq.nil (enc := Zbv) (sz := 2) (by decide)) b7) ?_
    rintro _ dt ⟨dB, bS, rfl, aA, bn, bk⟩
    obtain ⟨ao, ax, aq, rfl⟩ := bn.form
    have bM := (ai.djn (ag.ltF.le U.n))
    have dg := (((((ag.frS U dn_).ext ac).frS ab bM).frS ak dn_).frS aA dn_)
    obtain ⟨bH, cG, a2, cS⟩ := ra_ 79 0 aA.wf dg [i_ aS.1, .slice ao ax aq] [i_ aS.1, .slice ao ax aq]
    refine ek_ cG (Za (cd _ _ ?_))
    refine Zg (Zn (Z5 (Zn (Zn (Z5 (Zn (Zn ?_)))))))
    obtain ⟨dD, bf, ca⟩ := map_some cR
    subst ca
    obtain rfl := ZG av
    have bY := elim_inl aQ
    rw [bY] at bf
    refine Zan (vs := [.agg #[i_ aS.1, .slice ao ax aq]]) (ZQ (Eq.trans (b := aL_ 79 (pt_ ae 0) bH) (by kernel_rfl) (cS.l_)) (rfl)) ?_
    have cz := (t_ (t_ Y.n O.n) U.n)
    have cA := (t_ (t_ (t_ U.n ac.n) ab.n) ak.n)
    have bN := (bk.djn (ag.ltF.le cA))
    have dh := (bn.fr a2 (Dj.symm bN))
    have cB := (t_ (t_ (t_ (t_ (t_ Y.n O.n) U.n) ac.n) ab.n) ak.n)
    obtain rfl := oi_ bf
    exact ⟨(.slice ao ax aq), bS, rfl, (fs_ V (fs_ V (fs_ V (fs_ V ((fs_ V (((f0_ V).extR Y).extR O) U in_).extR ac) ab (ai.fresh cz)) ak in_) aA in_) a2 (au.fresh Y.n)), dh, (bk.fresh cB)⟩
   have cT := ZK aH bA
   refine Zf (cw _ _ (sq_ fun ce => ?_))
   obtain ⟨bq, bh, bw⟩ := bs_ cT
   refine ZC (fun α aV => Has α [(1, pt_ ad 0), (2, pt_ ae 0), (3, i_ e), (21, af), (22, i_ (Arcs.length : Int)), (23, i_ e), (60, .bool bq)] /\ aZ = aV) (fun _ bm => ?_) (fun α aV hM => ?_)
   ·refine g_' (q_ (pt_ ah 2) (lr_ 3 2 (i_ ((gt Arcs e).2.2)) aj ?_))
    refine sb_ (((gt Arcs e).2.2) < 0) (fun aI => ?_) fun aI => ?_
    ·have cU := Ze aI bh
     refine q_ (.bool true) (n_' (n_' (n_' (q_ (.bool true) (Za ?_)))))
     obtain rfl := oi_ cU
     exact bm _ _ ⟨ha_, rfl⟩
    have cV := Zi aI bh
    refine q_ (.bool false) (q_ (pt_ ah 2) (lr_ 3 2 (i_ ((gt Arcs e).2.2)) aj (q_ (.bool (decide (((gt Arcs e).2.2) > 2147483647))) (q_ (.bool (decide (((gt Arcs e).2.2) > 2147483647))) (Za ?_)))))
    obtain rfl := oi_ cV
    exact bm _ _ ⟨ha_, rfl⟩
   obtain ⟨ba, rfl⟩ := hM
   obtain ⟨β, rfl⟩ := Zh ba
   clear ba
   refine ce _ _ ?_
   refine wb_ (bq) (fun aJ => ?_) fun aJ => ?_
   ·have cW := Ze aJ bw
    refine sq_ fun cf => g_' (q_ (i_ e) ?_)
    obtain ⟨dG, b8, cX⟩ := bs_ cW
    refine ck_ (Za8 ab.wf b8) ?_
    rintro _ du ⟨rfl, al⟩
    obtain ⟨aT, b9, cY⟩ := bs_ cX
    refine ck_ (Zew al.wf (Sq.nil (enc := Zbv) (sz := 2) (by decide)) b9) ?_
    rintro _ dv ⟨dC, bT, rfl, aB, bo, bl⟩
    obtain ⟨ap, ay, ar, rfl⟩ := bo.form
    have bO := (ai.djn (ag.ltF.le U.n))
    have di := (((((ag.frS U dn_).ext ac).frS ab bO).frS al dn_).frS aB dn_)
    obtain ⟨bI, cH, a6, cZ⟩ := ra_ 79 0 aB.wf di [i_ aT.1, .slice ap ay ar] [i_ aT.1, .slice ap ay ar]
    refine ek_ cH (Za (cf _ _ ?_))
    refine Zg (Z5 (Zn (Zn (Z5 (Zn (Zn ?_))))))
    obtain ⟨dE, bg, cc⟩ := map_some cY
    subst cc
    obtain rfl := ZG av
    have bZ := elim_inl aQ
    rw [bZ] at bg
    refine Zan (vs := [.agg #[i_ aT.1, .slice ap ay ar]]) (ZQ (Eq.trans (b := aL_ 79 (pt_ ae 0) bI) (by kernel_rfl) (cZ.l_)) (rfl)) ?_
    have cC := (t_ (t_ Y.n O.n) U.n)
    have cD := (t_ (t_ (t_ U.n ac.n) ab.n) al.n)
    have bP := (bl.djn (ag.ltF.le cD))
    have dk := (bo.fr a6 (Dj.symm bP))
    have cE := (t_ (t_ (t_ (t_ (t_ Y.n O.n) U.n) ac.n) ab.n) al.n)
    obtain rfl := oi_ bg
    exact ⟨(.slice ap ay ar), bT, rfl, (fs_ V (fs_ V (fs_ V (fs_ V ((fs_ V (((f0_ V).extR Y).extR O) U in_).extR ac) ab (ai.fresh cC)) al in_) aB in_) a6 (au.fresh Y.n)), dk, (bl.fresh cE)⟩
   have c0 := ZK aJ bw
   refine Zf (cu _ _ (g_' ?_))
   obtain ⟨bV, c3⟩ := Zb c0
   refine w_' ((e + 1)) (Zo (by have := bV; omega)) (q_ (i_ (e + 1)) (Za ?_))
   obtain rfl := oi_ c3
   exact cp cF _ _ lt_ ⟨(e + 1), av, ha_, (fs_ O.wf ((fs_ O.wf (fr_ O.wf) U in_).extR ac) ab (ai.fresh U.n))⟩
  have c4 := Zi am an
  refine ZL (Zj (Zj (ZV ?_)))
  obtain rfl := oi_ c4
  obtain rfl := ZG av
  exact co _ _ ⟨_, rfl, ha_, (fs_ O.wf (fr_ O.wf) U in_)⟩
 obtain ⟨bs, rfl, bc, aD⟩ := hM
 have c5 := elim_inr aQ
 obtain ⟨β, rfl⟩ := Zh bc
 clear bc
 refine ck _ _ (sq_ fun ci => g_' (q_ (.agg #[i_ 0, .slice none 0 0]) ?_))
 have dm := (ag.frS aD dn_)
 obtain ⟨bJ, cI, bQ, c6⟩ := ra_ 79 0 aD.wf dm [i_ 0, .slice none 0 0] [i_ 0, .slice none 0 0]
 refine ek_ cI (Za (ci _ _ ?_))
 refine Zg ?_
 refine Zan (vs := [.agg #[i_ 0, .slice none 0 0]]) (ZQ (Eq.trans (b := aL_ 79 (pt_ ae 0) bJ) (by kernel_rfl) (c6.l_)) (rfl)) ?_
 obtain rfl := oi_ c5
 exact ⟨(.slice none 0 0), [], rfl, (fs_ V (fs_ V (((f0_ V).extR Y).extR O) aD in_) bQ (au.fresh Y.n)), (Ow.nil (by decide)), in_⟩
theorem ZbW {H : AH} {U : Value} {af : Fp} {O : Int} {e : List (Int × Int)} {r : Bool}
    (ab : WF H) (ac : Sq Zbv 2 H U e af) (aa : Z7 O e = some r) :
    ACalls Try.prog 32 #[.agg #[i_ O, U]] H fun v H' => v = .bool r /\ FrS [] H H' := by
 refine ab_ Try.func32 ?_
 unfold Z7 at aa
 refine sq_ fun k1 => g_' ?_
 refine ZbJ ab [i_ O, U] (Zy (rfl) (Zy (ac.one1) (Zau))) (by kernel_rfl) fun b2 aj V ak ae => ?_
 refine q_ (.bool false) (Za (k1 _ _ (sq_ fun ad => g_' (q_ (pt_ b2 0) (lr_ 3 0 (i_ O) ae ?_)))))
 refine Zjp (O = 0) (by kernel_rfl) (fun Y => ?_) (fun Y => ?_)
 ·have ag := Ze Y aa
  refine q_ (.bool false) (q_ (pt_ b2 1) (lr_ 77 1 (U) ae ?_))
  have ai := (ac.ext V)
  refine ai.ln_ 77 (q_ (.bool (decide ((e.length : Int) > 0))) (q_ (.bool (decide ((e.length : Int) > 0))) (q_ (.bool (decide ((e.length : Int) > 0))) (Za (ad _ _ ?_)))))
  refine Zg ?_
  refine br_ [.bool (decide ((e.length : Int) > 0))] ?_
  obtain rfl := oi_ ag
  exact ⟨rfl, ((f0_ ab).extR V)⟩
 have ah := Zi Y aa
 refine q_ (.bool true) (n_' (n_' (n_' (n_' (q_ (.bool true) (q_ (.bool true) (Za (ad _ _ ?_))))))))
 refine Zg ?_
 refine br_ [.bool true] ?_
 obtain rfl := oi_ ah
 exact ⟨rfl, ((f0_ ab).extR V)⟩
theorem Zgu {H : AH} {ad : Value} {ay : Fp} {aa : Int} {Arcs : List (Int × Int × Int)} {most : Int} {r : Bool}
    (e : WF H) (ai : Sq Zq 3 H ad Arcs ay) (ao : Zb0 aa Arcs most = some r) :
    ACalls Try.prog 21 #[.agg #[i_ aa, ad], i_ most] H fun v H' => v = .bool r /\ FrS [] H H' := by
 refine ab_ Try.func21 ?_
 unfold Zb0 at ao
 refine sq_ fun k1 => g_' ?_
 refine ZbJ e [i_ aa, ad] (Zy (rfl) (Zy (ai.one1) (Zau))) (by kernel_rfl) fun b2 aS U aV am => ?_
 refine q_ (.bool false) (Za (k1 _ _ (sq_ fun aB => g_' (lr_ 24 0 (.agg #[i_ aa, ad]) am ?_))))
 have av := (ai.ext U)
 obtain ⟨an, az, aF⟩ := bs_ ao
 refine ck_ (Zdv U.wf av az) ?_
 rintro _ aP ⟨aX, f14, rfl, O, ak, aW⟩
 obtain ⟨af, al, ag, rfl⟩ := ak.form
 refine rk_ O.wf [i_ 0, .slice none 0 0] fun aU aQ V ab aG => ?_
 have aL := (ak.ext V)
 obtain ⟨aR, aE, Y, aH⟩ := ra_ 79 0 V.wf aG [i_ an.1, .slice af al ag] [i_ an.1, .slice af al ag]
 refine ek_ aE (Za (aB _ _ (sq_ fun aj => g_' (lr_ 79 0 (.agg #[i_ an.1, .slice af al ag]) aH ?_))))
 have aM := (aL.fr Y (ab.djn ak.lt))
 obtain ⟨aO, aA, aq⟩ := bs_ aF
 refine ck_ (ZbW Y.wf aM.sq aA) ?_
 rintro _ aT ⟨rfl, ac⟩
 by_cases ae : aO = true
 ·have aI := Ze ae aq
  rw [ae]
  refine q_ (.bool false) (q_ (.bool false) (n_' (n_' (n_' (n_' (q_ (.bool false) (q_ (.bool false) (n_' (n_' (n_' (n_' (q_ (.bool false) (q_ (.bool false) (Za (aj _ _ ?_)))))))))))))))
  refine Zg ?_
  refine br_ [.bool false] ?_
  have aC := (t_ U.n O.n)
  obtain rfl := oi_ aI
  exact ⟨rfl, (fs_ e (fs_ e ((fs_ e ((f0_ e).extR U) O in_).extR V) Y (ab.fresh aC)) ac in_)⟩
 have ar := Zi ae aq
 rw [nb ae]
 refine q_ (.bool true) (q_ (.bool true) (q_ (pt_ b2 0) ?_))
 have aw := (ab.djn (am.ltF.le O.n))
 have au := ((((am.frS O dn_).ext V).frS Y aw).frS ac dn_)
 refine lr_ 3 0 (i_ aa) au (q_ (i_ most) ?_)
 refine sb_ (aa ≤ most) (fun ah => ?_) fun ah => ?_
 ·have aJ := Ze ah ar
  refine q_ (.bool true) (q_ (.bool true) (q_ (pt_ b2 1) (lr_ 22 1 (ad) au ?_)))
  have ap := (t_ U.n O.n)
  have ax := (ab.djn (ai.lt.le ap))
  have aN := ((((av.fr O dn_).ext V).fr Y ax).fr ac dn_)
  refine aN.ln_ 22 (q_ (.bool (decide ((Arcs.length : Int) ≤ 2000))) (q_ (.bool (decide ((Arcs.length : Int) ≤ 2000))) (q_ (.bool (decide ((Arcs.length : Int) ≤ 2000))) (Za (aj _ _ ?_)))))
  refine Zg ?_
  refine br_ [.bool (decide ((Arcs.length : Int) ≤ 2000))] ?_
  obtain rfl := oi_ aJ
  exact ⟨rfl, (fs_ e (fs_ e ((fs_ e ((f0_ e).extR U) O in_).extR V) Y (ab.fresh ap)) ac in_)⟩
 have aK := Zi ah ar
 refine q_ (.bool false) (q_ (.bool false) (n_' (n_' (n_' (n_' (q_ (.bool false) (q_ (.bool false) (Za (aj _ _ ?_)))))))))
 refine Zg ?_
 refine br_ [.bool false] ?_
 have aD := (t_ U.n O.n)
 obtain rfl := oi_ aK
 exact ⟨rfl, (fs_ e (fs_ e ((fs_ e ((f0_ e).extR U) O in_).extR V) Y (ab.fresh aD)) ac in_)⟩
theorem Zff {H : AH} {x : Int} {e : Int} {r : Bool}
    (aa : WF H) (U : ZcO x e = some r) :
    ACalls Try.prog 81 #[i_ x, i_ e] H fun v H' => v = .bool r /\ H = H' := by
 refine ab_ Try.func81 ?_
 unfold ZcO at U
 refine sq_ fun k1 => g_' (q_ (.bool false) (Za (k1 _ _ (sq_ fun k2 => g_' (q_ (i_ x) ?_)))))
 refine sb_ (x ≥ 0) (fun O => ?_) fun O => ?_
 ·have V := Ze O U
  refine q_ (.bool true) (q_ (i_ x) (q_ (i_ e) (q_ (.bool (decide (x < e))) (q_ (.bool (decide (x < e))) (q_ (.bool (decide (x < e))) (Za (k2 _ _ ?_)))))))
  refine Zg ?_
  refine br_ [.bool (decide (x < e))] ?_
  obtain rfl := oi_ V
  exact ⟨rfl, rfl⟩
 have Y := Zi O U
 refine q_ (.bool false) (n_' (n_' (n_' (q_ (.bool false) (q_ (.bool false) (Za (k2 _ _ ?_)))))))
 refine Zg ?_
 refine br_ [.bool false] ?_
 obtain rfl := oi_ Y
 exact ⟨rfl, rfl⟩
theorem Zjz {H : AH} {Y : Int} {aa : Int} {e : Int} {ac : Int} {r : Er}
    (V : WF H) (al : ZdE Y aa e ac = some r) :
    ACalls Try.prog 69 #[.agg #[i_ Y, i_ aa, i_ e], i_ ac] H fun v H' => ∃ (v3 : Value) (aj : Fp), v = v3 /\ FrS [] H H' /\ Ev 90 129 H' v3 r aj /\ Inn [] H aj := by
 refine ab_ Try.func69 ?_
 unfold ZdE at al
 refine sq_ fun aF => g_' ?_
 refine rl_ V [i_ Y, i_ aa, i_ e] fun U av O aO ad => ?_
 refine q_ (.nilIface) (Za (aF _ _ (sq_ fun az => Zk (sq_ fun aA => ?_))))
 obtain ⟨ao, aw, ap⟩ := bs_ al
 refine ZC (fun α ai => Has α [(2, pt_ U 0), (5, .bool ao)] /\ av = ai) (fun _ am => ?_) (fun α ai hM => ?_)
 ·refine g_' (q_ (pt_ U 0) (lr_ 3 0 (i_ Y) ad (q_ (i_ ac) ?_)))
  obtain ⟨aN, ax, aq⟩ := bs_ aw
  refine ck_ (Zff O.wf ax) ?_
  rintro _ _ ⟨rfl, rfl⟩
  by_cases ab : aN = true
  ·have aG := Ze ab aq
   rw [ab]
   refine q_ (.bool false) (q_ (.bool false) (q_ (pt_ U 1) (lr_ 3 1 (i_ aa) ad (q_ (i_ ac) ?_))))
   obtain ⟨ah, ay, aH⟩ := bs_ aG
   refine ck_ (Zff O.wf ay) ?_
   rintro _ _ ⟨rfl, rfl⟩
   refine q_ (.bool (!ah)) (q_ (.bool (!ah)) (q_ (.bool (!ah)) (Za ?_)))
   obtain rfl := oi_ aH
   exact am _ _ ⟨ha_, rfl⟩
  have aI := Zi ab aq
  rw [nb ab]
  refine q_ (.bool true) (q_ (.bool true) (n_' (n_' (n_' (n_' (n_' (q_ (.bool true) (q_ (.bool true) (Za ?_)))))))))
  obtain rfl := oi_ aI
  exact am _ _ ⟨ha_, rfl⟩
 obtain ⟨ak, rfl⟩ := hM
 obtain ⟨β, rfl⟩ := Zh ak
 clear ak
 refine aA _ _ ?_
 refine wb_ (ao) (fun ae => ?_) fun ae => ?_
 ·have aJ := Ze ae ap
  refine sq_ fun aB => g_' (q_ (.iface 90 (i_ 7)) (q_ (.iface 90 (i_ 7)) (Za (aB _ _ ?_))))
  refine Zg (Z5 (Zn ?_))
  refine br_ [.iface 90 (i_ 7)] ?_
  obtain rfl := oi_ aJ
  exact ⟨(.iface 90 (i_ 7)), [], rfl, ((f0_ V).extR O), Ev.no, in_⟩
 have ar := ZK ae ap
 refine sq_ fun an => g_' (q_ (pt_ U 2) (lr_ 3 2 (i_ e) ad ?_))
 refine sb_ (e < 0) (fun af => ?_) fun af => ?_
 ·have aK := Ze af ar
  refine q_ (.bool true) (n_' (n_' (n_' (q_ (.bool true) (q_ (.bool true) (Za (an _ _ ?_)))))))
  refine wb_ true (fun _ => ?_) fun h => by cases h
  refine sq_ fun aC => g_' (q_ (.iface 90 (i_ 8)) (q_ (.iface 90 (i_ 8)) (Za (aC _ _ ?_))))
  refine Zg (Z5 (Zn ?_))
  refine br_ [.iface 90 (i_ 8)] ?_
  obtain rfl := oi_ aK
  exact ⟨(.iface 90 (i_ 8)), [], rfl, ((f0_ V).extR O), Ev.no, in_⟩
 have au := Zi af ar
 refine q_ (.bool false) (q_ (pt_ U 2) (lr_ 3 2 (i_ e) ad (q_ (.bool (decide (e > 2147483647))) (q_ (.bool (decide (e > 2147483647))) (q_ (.bool (decide (e > 2147483647))) (Za (an _ _ ?_)))))))
 refine wc_ (e > 2147483647) (fun ag => ?_) fun ag => ?_
 ·have aL := Ze ag au
  refine sq_ fun aD => g_' (q_ (.iface 90 (i_ 8)) (q_ (.iface 90 (i_ 8)) (Za (aD _ _ ?_))))
  refine Zg (Z5 (Zn ?_))
  refine br_ [.iface 90 (i_ 8)] ?_
  obtain rfl := oi_ aL
  exact ⟨(.iface 90 (i_ 8)), [], rfl, ((f0_ V).extR O), Ev.no, in_⟩
 have aM := Zi ag au
 refine Zf (az _ _ (sq_ fun aE => g_' (q_ (.nilIface) (Za (aE _ _ ?_)))))
 refine Zg ?_
 refine br_ [.nilIface] ?_
 obtain rfl := oi_ aM
 exact ⟨(.nilIface), [], rfl, ((f0_ V).extR O), Ev.nil, in_⟩
theorem ZhB {H : AH} {Y : Value} {ag : Fp} {e : Int} {at_ : Int} {ae : Er} {r : Er}
    (ac : WF H) (ah : Ev 90 129 H Y ae ag) (ab : ZcY e at_ ae = some r) :
    ACalls Try.prog 35 #[i_ e, i_ at_, Y] H fun v H' => ∃ (v3 : Value) (af : Fp), v = v3 /\ FrS [] H H' /\ Ev 90 129 H' v3 r af /\ Inn ag H af := by
 refine ab_ Try.func35 ?_
 unfold ZcY at ab
 refine sq_ fun ap => g_' (q_ (.nilIface) (Za (ap _ _ (sq_ fun aq => sq_ fun ai => g_' (q_ (Y) ?_)))))
 rcases (ah).cases with ⟨aa, rfl⟩ | ⟨aa, U, V, rfl⟩
 ·have ar := Ze aa ab
  refine q_ (.bool true) (Za (ai _ _ ?_))
  refine wb_ true (fun _ => ?_) fun h => by cases h
  refine sq_ fun an => g_' (q_ (.nilIface) (Za (an _ _ ?_)))
  refine Zg (Zn ?_)
  refine br_ [.nilIface] ?_
  obtain rfl := oi_ ar
  exact ⟨(.nilIface), [], rfl, (f0_ ac), Ev.nil, in_⟩
 have au := Zi aa ab
 refine l_' (.bool false) (ZcD Try.prog .eql 38 (.tmp 7) (.const .nilIface) (.iface U V) .nilIface) (ZlW (by kernel_rfl)) (Za (ai _ _ ?_))
 refine wb_ false (fun h => by cases h) fun _ => ?_
 refine Zf (aq _ _ (sq_ fun ao => g_' (q_ (i_ e) (q_ (i_ at_) (q_ (.agg #[i_ e, i_ at_]) (q_ (.iface U V) (q_ (.agg #[i_ e, i_ at_, .iface U V]) ?_)))))))
 refine rl_ ac [i_ e, i_ at_, .iface U V] fun O ax ad ak av => ?_
 have aw := (ah.ext ad)
 obtain ⟨aj, al, am⟩ := Ev.at av aw ak
 refine q_ (.iface 129 (pt_ O 0)) (q_ (.iface 129 (pt_ O 0)) (Za (ao _ _ ?_)))
 refine Zg ?_
 refine br_ [.iface 129 (pt_ O 0)] ?_
 obtain rfl := oi_ au
 exact ⟨(.iface 129 (pt_ O 0)), aj, rfl, ((f0_ ac).extR ad), al, (Inn.trans ir_ (Nat.le_refl _) am)⟩
theorem Zil {H : AH} {ad : Value} {aX : Fp} {V : Int} {Arcs : List (Int × Int × Int)} {r : Er}
    (Y : WF H) (an : Sq Zq 3 H ad Arcs aX) (aC : Zc8 V Arcs = some r) :
    ACalls Try.prog 58 #[.agg #[i_ V, ad]] H fun v H' => ∃ (v3 : Value) (ax : Fp), v = v3 /\ FrS [] H H' /\ Ev 90 129 H' v3 r ax /\ Inn [] H ax := by
 refine ab_ Try.func58 ?_
 unfold Zc8 at aC
 refine sq_ fun bn => g_' ?_
 refine ZbJ Y [i_ V, ad] (Zy (rfl) (Zy (an.one1) (Zau))) (by kernel_rfl) fun aa ai O bX ae => ?_
 refine q_ (.nilIface) (Za (bn _ _ (sq_ fun bd => sq_ fun be => ?_)))
 obtain ⟨aI, aE, aK⟩ := bs_ aC
 refine ZC (fun α au => Has α [(1, pt_ aa 0), (19, .bool aI)] /\ ai = au) (fun _ aq => ?_) (fun α au hM => ?_)
 ·refine g_' (q_ (pt_ aa 0) (lr_ 3 0 (i_ V) ae ?_))
  refine sb_ (V < 0) (fun aj => ?_) fun aj => ?_
  ·have bA := Ze aj aE
   refine q_ (.bool true) (n_' (n_' (n_' (q_ (.bool true) (q_ (.bool true) (n_' (n_' (n_' (n_' (q_ (.bool true) (Za ?_)))))))))))
   obtain rfl := oi_ bA
   exact aq _ _ ⟨ha_, rfl⟩
  have aL := Zi aj aE
  refine q_ (.bool false) (q_ (pt_ aa 0) (lr_ 3 0 (i_ V) ae ?_))
  refine sb_ (V > 65536) (fun ak => ?_) fun ak => ?_
  ·have bB := Ze ak aL
   refine q_ (.bool true) (q_ (.bool true) (n_' (n_' (n_' (n_' (q_ (.bool true) (Za ?_)))))))
   obtain rfl := oi_ bB
   exact aq _ _ ⟨ha_, rfl⟩
  have bC := Zi ak aL
  refine q_ (.bool false) (q_ (.bool false) (q_ (pt_ aa 1) (lr_ 22 1 (ad) ae ?_)))
  have bN := (an.ext O)
  refine bN.ln_ 22 (q_ (.bool (decide ((Arcs.length : Int) > 262144))) (q_ (.bool (decide ((Arcs.length : Int) > 262144))) (Za ?_)))
  obtain rfl := oi_ bC
  exact aq _ _ ⟨ha_, rfl⟩
 obtain ⟨az, rfl⟩ := hM
 obtain ⟨β, rfl⟩ := Zh az
 clear az
 refine be _ _ ?_
 refine wb_ (aI) (fun al => ?_) fun al => ?_
 ·have bD := Ze al aK
  refine sq_ fun bf => g_' (q_ (.iface 90 (i_ 9)) (q_ (.iface 90 (i_ 9)) (Za (bf _ _ ?_))))
  refine Zg (Zn ?_)
  refine br_ [.iface 90 (i_ 9)] ?_
  obtain rfl := oi_ bD
  exact ⟨(.iface 90 (i_ 9)), [], rfl, ((f0_ Y).extR O), Ev.no, in_⟩
 have bE := ZK al aK
 refine Zf (bd _ _ (sq_ fun bg => sq_ fun bh => g_' (q_ (pt_ aa 1) (lr_ 22 1 (ad) ae ?_))))
 have aP := (an.ext O)
 refine aP.ln_ 22 (q_ (i_ 0) (Za (bh _ _ ?_)))
 obtain ⟨z39, a6, aM⟩ := bs_ bE
 refine ZC (fun α av => ∃ aJ, z39 = Sum.inr aJ /\ Has α [] /\ FrS [] ai av) (fun _ bi => ?_) (fun α av hM => ?_)
 ·refine Zk ?_
  obtain ⟨aH, a1⟩ := Zv.1 a6
  refine ZJ (fun n α aw => ∃ (e : Int), ZN (fun zz_ => Zcv V Arcs zz_) n e = some z39 /\ Has α [(1, pt_ aa 0), (22, ad), (23, i_ (Arcs.length : Int)), (24, i_ e)] /\ FrS [] ai aw) aH ⟨0, a1, ha_, (fr_ O.wf)⟩ ?_
  rintro aH α aw ⟨e, aZ, aB, U⟩ bU bj
  obtain ⟨bv, bP, rfl, ag, ap⟩ := Zx aZ
  obtain ⟨β, rfl⟩ := Zh aB
  clear aB
  replace ag : Zcv V Arcs e = some bP := ag
  unfold Zcv at ag
  refine sq_ fun bk => g_' (q_ (.bool (decide (e < (Arcs.length : Int)))) (Za (bk _ _ (sq_ fun bl => ?_))))
  refine wc_ (e < (Arcs.length : Int)) (fun af => ?_) fun af => ?_
  ·have bF := Ze af ag
   refine Zf (bl _ _ (sq_ fun bm => Zk (sq_ fun bo => g_' (q_ (i_ e) ?_))))
   obtain ⟨ay, bG⟩ := Zb bF
   have aQ := (aP.fr U dn_)
   refine aQ.ix_ 22 ay af (le_ 118 0 (.agg #[i_ ((gt Arcs e).1), i_ ((gt Arcs e).2.1), i_ ((gt Arcs e).2.2)]) aQ ay af ?_)
   refine rk_ U.wf [i_ 0, i_ 0, i_ 0] fun bV bR ab ao bH => ?_
   refine q_ (i_ e) ?_
   obtain ⟨bS, bw, ac, bI⟩ := ra_ 118 0 ab.wf bH [i_ ((gt Arcs e).1), i_ ((gt Arcs e).2.1), i_ ((gt Arcs e).2.2)] [i_ ((gt Arcs e).1), i_ ((gt Arcs e).2.1), i_ ((gt Arcs e).2.2)]
   refine ek_ bw (Za (bo _ _ (sq_ fun bp => g_' (lr_ 118 0 (.agg #[i_ ((gt Arcs e).1), i_ ((gt Arcs e).2.1), i_ ((gt Arcs e).2.2)]) bI (q_ (pt_ aa 0) ?_)))))
   have aT := (ao.djn (ae.ltF.le U.n))
   have bO := (((ae.frS U dn_).ext ab).frS ac aT)
   refine lr_ 3 0 (i_ V) bO ?_
   obtain ⟨bZ, a7, aN⟩ := bs_ bG
   refine ck_ (Zjz ac.wf a7) ?_
   rintro aR bT ⟨_, bW, rfl, ah, aG, bb⟩
   refine q_ (aR) (Za (bp _ _ (sq_ fun aF => g_' (q_ (aR) ?_))))
   rcases (aG).cases with ⟨am, rfl⟩ | ⟨am, aO, aS, rfl⟩
   ·have bJ := Ze am aN
    refine q_ (.bool false) (Za (aF _ _ ?_))
    refine wb_ false (fun h => by cases h) fun _ => ?_
    refine Zf (bm _ _ (g_' ?_))
    obtain ⟨aY, bK⟩ := Zb bJ
    refine w_' ((e + 1)) (Zo (by have := aY; omega)) (q_ (i_ (e + 1)) (Za ?_))
    obtain rfl := oi_ bK
    exact bj bv _ _ lt_ ⟨(e + 1), ap, ha_, (fs_ O.wf (fs_ O.wf ((fs_ O.wf (fr_ O.wf) U in_).extR ab) ac (ao.fresh U.n)) ah in_)⟩
   have bL := Zi am aN
   refine l_' (.bool true) (ZcD Try.prog .neq 38 (.tmp 33) (.const .nilIface) (.iface aO aS) .nilIface) (ZcU (by kernel_rfl)) (Za (aF _ _ ?_))
   refine wb_ true (fun _ => ?_) fun h => by cases h
   refine sq_ fun bq => g_' (q_ (i_ e) (q_ (.iface aO aS) ?_))
   obtain ⟨b5, a8, bM⟩ := bs_ bL
   refine ck_ (ZhB ah.wf aG a8) ?_
   rintro ar bQ ⟨_, aW, rfl, aU, br, ba⟩
   refine q_ (ar) (Za (bq _ _ ?_))
   refine Zg (Z5 (Zn (Zn (Z5 (Zn (Zn ?_))))))
   obtain ⟨bY, aD, a_⟩ := map_some bM
   subst a_
   obtain rfl := ZG ap
   have a2 := elim_inl aM
   rw [a2] at aD
   refine br_ [ar] ?_
   have bs := (t_ O.n U.n)
   have bt := (t_ (t_ (t_ O.n U.n) ab.n) ac.n)
   have bu := (t_ (t_ (t_ (t_ O.n U.n) ab.n) ac.n) ah.n)
   obtain rfl := oi_ aD
   exact ⟨(ar), aW, rfl, (fs_ Y (fs_ Y (fs_ Y ((fs_ Y ((f0_ Y).extR O) U in_).extR ab) ac (ao.fresh bs)) ah in_) aU in_), br, (Inn.trans (bb.fresh bt) bu ba)⟩
  have bx := Zi af ag
  refine ZL (Zj (Zj (ZV ?_)))
  obtain rfl := oi_ bx
  obtain rfl := ZG ap
  exact bi _ _ ⟨_, rfl, trivial, (fs_ O.wf (fr_ O.wf) U in_)⟩
 obtain ⟨aJ, rfl, aA, aV⟩ := hM
 have bz := elim_inr aM
 obtain ⟨β, rfl⟩ := Zh aA
 clear aA
 refine bg _ _ (sq_ fun bc => g_' (q_ (.nilIface) (Za (bc _ _ ?_))))
 refine Zg ?_
 refine br_ [.nilIface] ?_
 obtain rfl := oi_ bz
 exact ⟨(.nilIface), [], rfl, (fs_ Y ((f0_ Y).extR O) aV in_), Ev.nil, in_⟩
theorem ZgU {H : AH} {x : Int} {r : Bool}
    (O : WF H) (e : ZdD x = some r) :
    ACalls Try.prog 92 #[i_ x] H fun v H' => v = .bool r /\ H = H' := by
 refine ab_ Try.func92 ?_
 unfold ZdD at e
 refine sq_ fun k1 => g_' (q_ (.bool false) (Za (k1 _ _ (sq_ fun k2 => g_' (q_ (i_ x) (q_ (i_ x) (q_ (.bool (!decide (x = x))) (q_ (.bool (!decide (x = x))) (Za (k2 _ _ ?_))))))))))
 refine Zg ?_
 refine br_ [.bool (!decide (x = x))] ?_
 obtain rfl := oi_ e
 exact ⟨rfl, rfl⟩
theorem Zet {H : AH} {x : Int} {y : Int} {r : Int}
    (ai : WF H) (ac : Zcb x y = some r) :
    ACalls Try.prog 73 #[i_ x, i_ y] H fun v H' => v = i_ r /\ H = H' := by
 refine ab_ Try.func73 ?_
 unfold Zcb at ac
 refine sq_ fun k1 => g_' (q_ (i_ 0) (Za (k1 _ _ (sq_ fun k2 => g_' (q_ (i_ x) ?_)))))
 obtain ⟨ab, ak, aK⟩ := bs_ ac
 refine ck_ (ZgU ai ak) ?_
 rintro _ _ ⟨rfl, rfl⟩
 refine q_ (.bool ab) (Za (k2 _ _ (sq_ fun aD => g_' (q_ (i_ y) ?_))))
 obtain ⟨e, aj, ad⟩ := bs_ aK
 refine ck_ (ZgU ai aj) ?_
 rintro _ _ ⟨rfl, rfl⟩
 refine q_ (.bool e) (Za (aD _ _ (sq_ fun al => sq_ fun am => g_' (q_ (.bool ab) (Za (am _ _ ?_))))))
 refine wb_ (ab) (fun O => ?_) fun O => ?_
 ·have ae := Ze O ad
  refine sq_ fun an => sq_ fun ao => g_' (q_ (.bool e) (Za (ao _ _ ?_)))
  refine wb_ (e) (fun U => ?_) fun U => ?_
  ·have aE := Ze U ae
   refine sq_ fun ap => g_' (q_ (i_ 0) (Za (ap _ _ ?_)))
   refine Zg (Zn (Zn ?_))
   refine br_ [i_ 0] ?_
   obtain rfl := oi_ aE
   exact ⟨rfl, rfl⟩
  have aF := ZK U ae
  refine Zf (an _ _ (sq_ fun aq => g_' (q_ (i_ (-1)) (Za (aq _ _ ?_)))))
  refine Zg (Zn ?_)
  refine br_ [i_ (-1)] ?_
  obtain rfl := oi_ aF
  exact ⟨rfl, rfl⟩
 have af := ZK O ad
 refine Zf (al _ _ (sq_ fun ar => sq_ fun au => g_' (q_ (.bool e) (Za (au _ _ ?_)))))
 refine wb_ (e) (fun V => ?_) fun V => ?_
 ·have aG := Ze V af
  refine sq_ fun av => g_' (q_ (i_ 1) (Za (av _ _ ?_)))
  refine Zg (Zn ?_)
  refine br_ [i_ 1] ?_
  obtain rfl := oi_ aG
  exact ⟨rfl, rfl⟩
 have ag := ZK V af
 refine Zf (ar _ _ (sq_ fun aw => sq_ fun ax => g_' (q_ (i_ x) (q_ (i_ y) (q_ (.bool (decide (x < y))) (Za (ax _ _ ?_)))))))
 refine wc_ (x < y) (fun Y => ?_) fun Y => ?_
 ·have aH := Ze Y ag
  refine sq_ fun ay => g_' (q_ (i_ (-1)) (Za (ay _ _ ?_)))
  refine Zg (Zn ?_)
  refine br_ [i_ (-1)] ?_
  obtain rfl := oi_ aH
  exact ⟨rfl, rfl⟩
 have ah := Zi Y ag
 refine Zf (aw _ _ (sq_ fun az => sq_ fun aA => g_' (q_ (i_ x) (q_ (i_ y) (q_ (.bool (decide (x > y))) (Za (aA _ _ ?_)))))))
 refine wc_ (x > y) (fun aa => ?_) fun aa => ?_
 ·have aI := Ze aa ah
  refine sq_ fun aB => g_' (q_ (i_ 1) (Za (aB _ _ ?_)))
  refine Zg (Zn ?_)
  refine br_ [i_ 1] ?_
  obtain rfl := oi_ aI
  exact ⟨rfl, rfl⟩
 have aJ := Zi aa ah
 refine Zf (az _ _ (sq_ fun aC => g_' (q_ (i_ 0) (Za (aC _ _ ?_)))))
 refine Zg ?_
 refine br_ [i_ 0] ?_
 obtain rfl := oi_ aJ
 exact ⟨rfl, rfl⟩
theorem Zma {H : AH} {Y : Value} {ap : Fp} {O : List (Int)} {r : Int}
    (aS : WF H) (ab : Sq (Zal .i64) 1 H Y O ap) (ai : ZeE O = some r) :
    ACalls Try.prog 72 #[Y] H fun v H' => v = i_ r /\ H = H' := by
 refine ab_ Try.func72 ?_
 unfold ZeE at ai
 refine sq_ fun k1 => g_' (q_ (i_ 0) (Za (k1 _ _ (sq_ fun k2 => g_' (q_ (i_ 0) (Za (k2 _ _ (sq_ fun k3 => sq_ fun aG => g_' (q_ (Y) (ab.ln_ 26 (q_ (i_ 0) (Za (aG _ _ ?_)))))))))))))
 obtain ⟨ao, aw, an⟩ := bs_ ai
 refine ZC (fun α ae => ∃ al, ao = Sum.inr al /\ Has α [(3, i_ 0)] /\ H = ae) (fun _ ay => ?_) (fun α ae hM => ?_)
 ·refine Zk ?_
  obtain ⟨ak, au⟩ := Zv.1 aw
  refine ZJ (fun n α ad => ∃ (e : Int), ZN (fun zz_ => Zcr O zz_) n e = some ao /\ Has α [(3, i_ 0), (6, Y), (7, i_ (O.length : Int)), (8, i_ e)] /\ H = ad) ak ⟨0, au, ha_, rfl⟩ ?_
  rintro ak α ad ⟨e, ar, ah, rfl⟩ aQ az
  obtain ⟨aI, aP, rfl, V, ac⟩ := Zx ar
  obtain ⟨β, rfl⟩ := Zh ah
  clear ah
  replace V : Zcr O e = some aP := V
  unfold Zcr at V
  refine sq_ fun aA => g_' (q_ (.bool (decide (e < (O.length : Int)))) (Za (aA _ _ (sq_ fun aB => ?_))))
  refine wc_ (e < (O.length : Int)) (fun U => ?_) fun U => ?_
  ·have aJ := Ze U V
   refine Zf (aB _ _ (sq_ fun aC => Zk (sq_ fun aD => g_' ?_)))
   obtain ⟨af, am⟩ := Zb aJ
   refine ab.ix_ 26 af U (le_ 3 0 (i_ (gt O e)) ab af U (q_ (i_ (gt O e)) (Za (aD _ _ (sq_ fun aE => g_' (q_ (i_ (gt O e)) (q_ (i_ 0) (q_ (.bool (!decide ((gt O e) = 0))) (Za (aE _ _ ?_))))))))))
   refine ZeC ((gt O e) = 0) (by kernel_rfl) rfl (fun aa => ?_) (fun aa => ?_)
   ·have aK := Zi aa am
    refine sq_ fun aF => g_' (q_ (i_ (gt O e)) (q_ (i_ (gt O e)) (Za (aF _ _ ?_))))
    refine Zg (Z5 (Zn (Zn (Z5 (Zn (Zn ?_))))))
    obtain ⟨aR, aj, ax⟩ := map_some aK
    subst ax
    obtain rfl := ZG ac
    have av := elim_inl an
    rw [av] at aj
    refine br_ [i_ (gt O e)] ?_
    obtain rfl := oi_ aj
    exact ⟨rfl, rfl⟩
   have aL := Ze aa am
   refine Zf (aC _ _ (g_' ?_))
   obtain ⟨aq, aM⟩ := Zb aL
   refine w_' ((e + 1)) (Zo (by have := aq; omega)) (q_ (i_ (e + 1)) (Za ?_))
   obtain rfl := oi_ aM
   exact az aI _ _ lt_ ⟨(e + 1), ac, ha_, rfl⟩
  have aN := Zi U V
  refine ZL (Zj (Zj (ZV ?_)))
  obtain rfl := oi_ aN
  obtain rfl := ZG ac
  exact ay _ _ ⟨_, rfl, ha_, rfl⟩
 obtain ⟨al, rfl, ag, rfl⟩ := hM
 have aO := elim_inr an
 obtain ⟨β, rfl⟩ := Zh ag
 clear ag
 refine k3 _ _ (sq_ fun aH => g_' (q_ (i_ 0) (q_ (i_ 0) (Za (aH _ _ ?_)))))
 refine Zg ?_
 refine br_ [i_ 0] ?_
 obtain rfl := oi_ aO
 exact ⟨rfl, rfl⟩
theorem ZhR {H : AH} {aa : Int} {ac : Int} {ae : Int} {ab : Int} {ad : Int} {af : Int} {r : Int}
    (ak : WF H) (aj : ZbR aa ac ae ab ad af = some r) :
    ACalls Try.prog 60 #[.agg #[i_ aa, i_ ac, i_ ae], .agg #[i_ ab, i_ ad, i_ af]] H fun v H' => v = i_ r /\ FrS [] H H' := by
 refine ab_ Try.func60 ?_
 unfold ZbR at aj
 refine sq_ fun k1 => g_' ?_
 refine rl_ ak [i_ aa, i_ ac, i_ ae] fun b2 aB ah aH ax => ?_
 refine rl_ ah.wf [i_ ab, i_ ad, i_ af] fun O e U aG V => ?_
 refine q_ (i_ 0) (Za (k1 _ _ (sq_ fun aq => ?_)))
 refine ZW [0, 1, 2, 3, 5, 6, 7, 8, 10, 11, 12, 13, 4, 9, 14, 15, 16, 17] (by kernel_rfl) ?_
 refine e_' (pt_ b2 0) ?_
 have Y := (ax.ext U)
 refine mr_ 3 0 (i_ aa) Y (e_' (pt_ O 0) (mr_ 3 0 (i_ ab) V (e_' (pt_ b2 1) ?_)))
 refine Zdf (i_ ac) (x := aL_ 3 (pt_ b2 1) e) (by kernel_rfl) (Y.l_) ?_
 refine e_' (pt_ O 1) ?_
 refine Zdf (i_ ad) (x := aL_ 3 (pt_ O 1) e) (by kernel_rfl) (V.l_) ?_
 refine e_' (pt_ b2 2) ?_
 refine Zdf (i_ ae) (x := aL_ 3 (pt_ b2 2) e) (by kernel_rfl) (Y.l_) ?_
 refine e_' (pt_ O 2) ?_
 refine Zdf (i_ af) (x := aL_ 3 (pt_ O 2) e) (by kernel_rfl) (V.l_) ?_
 obtain ⟨ay, am, ar⟩ := bs_ aj
 refine dk_ (Zet U.wf am) ?_
 rintro _ _ ⟨rfl, rfl⟩
 refine ⟨ZbX (y := aL_ 3 (pt_ O 2) e) (by kernel_rfl) (V.l_) (ZbX (y := aL_ 3 (pt_ b2 2) e) (by kernel_rfl) (Y.l_) (ZbX (y := aL_ 3 (pt_ O 1) e) (by kernel_rfl) (V.l_) (ZbX (y := aL_ 3 (pt_ b2 1) e) (by kernel_rfl) (Y.l_) (ZS)))), ?_⟩
 obtain ⟨az, an, au⟩ := bs_ ar
 refine dk_ (Zet U.wf an) ?_
 rintro _ _ ⟨rfl, rfl⟩
 refine ⟨ZbX (y := aL_ 3 (pt_ O 2) e) (by kernel_rfl) (V.l_) (ZbX (y := aL_ 3 (pt_ b2 2) e) (by kernel_rfl) (Y.l_) (ZaH (by kernel_rfl) (ZaH (by kernel_rfl) (ZS)))), ?_⟩
 obtain ⟨aA, ao, av⟩ := bs_ au
 refine dk_ (Zet U.wf ao) ?_
 rintro _ _ ⟨rfl, rfl⟩
 refine ⟨ZaH (by kernel_rfl) (ZaH (by kernel_rfl) (ZaH (by kernel_rfl) (ZaH (by kernel_rfl) (ZS)))), ?_⟩
 refine Ziy (enc := (Zal .i64)) (sz := 1) U.wf [ay, az, aA] 3 (by decide) (fun _ _ => rfl) (fun _ _ => rfl) rfl (by kernel_rfl) fun aK aF aC ag aI ai => ?_
 obtain ⟨aD, aJ, aE, rfl⟩ := ai.form
 obtain ⟨al, ap, aw⟩ := bs_ av
 refine dk_ (Zma ag.wf ai.sq ap) ?_
 rintro _ _ ⟨rfl, rfl⟩
 refine ⟨ZaH (by kernel_rfl) (ZaH (by kernel_rfl) (ZaH (by kernel_rfl) (ZaH (by kernel_rfl) (ZS)))), ?_⟩
 refine e_' (i_ al) ?_
 refine ZR ?_
 refine aq _ _ ?_
 refine Zg ?_
 refine br_ [i_ al] ?_
 obtain rfl := oi_ aw
 exact ⟨rfl, ((((f0_ ak).extR ah).extR U).extR ag)⟩
theorem ZfX {H : AH} {U : Int} {e : Int} {Y : Int} {V : Int} {O : Int} {aa : Int} {r : Bool}
    (af : WF H) (ae : ZcE U e Y V O aa = some r) :
    ACalls Try.prog 62 #[.agg #[i_ U, i_ e, i_ Y], .agg #[i_ V, i_ O, i_ aa]] H fun v H' => v = .bool r /\ FrS [] H H' := by
 refine ab_ Try.func62 ?_
 unfold ZcE at ae
 refine sq_ fun k1 => g_' ?_
 refine rl_ af [i_ U, i_ e, i_ Y] fun b2 an ac aq am => ?_
 refine rl_ ac.wf [i_ V, i_ O, i_ aa] fun ag ao ab ap ai => ?_
 refine q_ (.bool false) (Za (k1 _ _ (sq_ fun ah => g_' (q_ (pt_ b2 0) ?_))))
 have aj := (am.ext ab)
 refine lr_ 3 0 (i_ U) aj (q_ (pt_ ag 0) (lr_ 3 0 (i_ V) ai ?_))
 refine sb_ (U = V) (fun ad => ?_) fun ad => ?_
 ·have ak := Ze ad ae
  refine q_ (.bool true) (q_ (pt_ b2 1) (lr_ 3 1 (i_ e) aj (q_ (pt_ ag 1) (lr_ 3 1 (i_ O) ai (q_ (.bool (decide (e = O))) (q_ (.bool (decide (e = O))) (q_ (.bool (decide (e = O))) (Za (ah _ _ ?_)))))))))
  refine Zg ?_
  refine br_ [.bool (decide (e = O))] ?_
  obtain rfl := oi_ ak
  exact ⟨rfl, (((f0_ af).extR ac).extR ab)⟩
 have al := Zi ad ae
 refine q_ (.bool false) (n_' (n_' (n_' (n_' (n_' (q_ (.bool false) (q_ (.bool false) (Za (ah _ _ ?_)))))))))
 refine Zg ?_
 refine br_ [.bool false] ?_
 obtain rfl := oi_ al
 exact ⟨rfl, (((f0_ af).extR ac).extR ab)⟩
end Go.Vd

/-! (KSb1) -/

set_option maxRecDepth 100000
set_option maxHeartbeats 4000000
set_option linter.unusedVariables false
namespace Go.Vd
open Go.Proofs
attribute [local irreducible] Zm Zp aWp
theorem ZfE {H : AH} {U : Value} {ab : Fp} {s : List (Int × Int × Int)} {r : List (Int × Int × Int) × List (Int × Int × Int)}
    (V : WF H) (al : Ow Zq 3 H U s ab) (aG : Zby s = some r) :
    ACalls Try.prog 61 #[U, .func (.func 62) #[] #[]] H fun v H' => ∃ (bf : Value), v = bf /\ FrS ab H H' /\ Ow Zq 3 H' bf r.1 ab /\ Ow Zq 3 H' U r.2 ab := by
 refine ab_ Try.func61 ?_
 unfold Zby at aG
 refine sq_ fun bX => g_' (q_ (.slice none 0 0) (Za (bX _ _ (sq_ fun b5 => sq_ fun b7 => g_' (q_ (U) (al.sq.ln_ 22 (q_ (.bool (decide ((s.length : Int) < 2))) (Za (b7 _ _ ?_)))))))))
 refine wc_ ((s.length : Int) < 2) (fun aD => ?_) fun aD => ?_
 ·have ci := Ze aD aG
  refine sq_ fun bJ => g_' (q_ (U) (q_ (U) (Za (bJ _ _ ?_))))
  refine Zg (Zn ?_)
  refine br_ [U] ?_
  obtain rfl := oi_ ci
  exact ⟨(U), rfl, (fr_ V), al, al⟩
 have co := Zi aD aG
 refine Zf (b5 _ _ (sq_ fun bL => sq_ fun bN => g_' (q_ (i_ 1) (Za (bN _ _ ?_)))))
 obtain ⟨bk, bE, bd⟩ := bs_ co
 refine ZC (fun α aI => ∃ bb, bk = Sum.inr bb /\ Has α [(0, U)] /\ FrS [] H aI) (fun _ bQ => ?_) (fun α aI hM => ?_)
 ·refine Zk ?_
  obtain ⟨a8, bA⟩ := Zv.1 bE
  refine ZJ (fun n α aJ => ∃ (k3 : Int), ZN (fun zz_ => ZaV s zz_) n k3 = some bk /\ Has α [(0, U), (1, .func (.func 62) #[] #[]), (5, i_ k3)] /\ FrS [] H aJ) a8 ⟨1, bA, ha_, (f0_ V)⟩ ?_
  rintro a8 α aJ ⟨k3, bw, aS, aj⟩ cT bR
  obtain ⟨cc, cO, rfl, am, aE⟩ := Zx bw
  obtain ⟨β, rfl⟩ := Zh aS
  clear aS
  replace am : ZaV s k3 = some cO := am
  unfold ZaV at am
  refine sq_ fun bS => sq_ fun bT => g_' (q_ (i_ k3) (q_ (U) ?_))
  have ah := (al.fr aj dn_)
  refine ah.sq.ln_ 22 (q_ (.bool (decide (k3 < (s.length : Int)))) (Za (bT _ _ ?_)))
  refine wc_ (k3 < (s.length : Int)) (fun ak => ?_) fun ak => ?_
  ·have cE := Ze ak am
   refine Zf (bS _ _ (sq_ fun bU => Zk (sq_ fun bV => ?_)))
   refine ZW [0, 1, 2, 3, 4, 5, 6, 7, 8, 9, 10] (by kernel_rfl) ?_
   refine e_' (.func (.func 62) #[] #[]) (e_' (U) (e_' (i_ k3) ?_))
   obtain ⟨aP, cF⟩ := Zb cE
   refine ah.sq.mx_ 22 aP ak (me_ 118 0 (.agg #[i_ ((gt s k3).1), i_ ((gt s k3).2.1), i_ ((gt s k3).2.2)]) ah.sq aP ak (e_' (U) (e_' (i_ k3) ?_)))
   obtain ⟨bv, cG⟩ := Zb cF
   refine d_w ((k3 - 1)) (k := .i64) (x := (k3 - 1)) (by kernel_rfl) (Zo bv) ?_
   obtain ⟨ax, cH⟩ := Zb cG
   refine ah.sq.mx_ 22 ax.1 ax.2 (me_ 118 0 (.agg #[i_ ((gt s (k3 - 1)).1), i_ ((gt s (k3 - 1)).2.1), i_ ((gt s (k3 - 1)).2.2)]) ah.sq ax.1 ax.2 ?_)
   obtain ⟨cN, bH, be⟩ := bs_ cH
   refine dk_ (ZfX aj.wf bH) ?_
   rintro _ aK ⟨rfl, Y⟩
   refine ⟨ZS, ?_⟩
   refine ZR ?_
   refine bV _ _ ?_
   refine wb_ (cN) (fun aC => ?_) fun aC => ?_
   ·have cI := Ze aC be
    refine sq_ fun bW => g_' (q_ (U) (q_ (i_ k3) ?_))
    obtain ⟨aQ, cJ⟩ := Zb cI
    have bh := (ah.fr Y dn_)
    obtain ⟨c3, ch, ao⟩ := Ow.view (P := Try.prog) bh (t := 22) (by kernel_rfl) (lo := some (i_ k3)) (l := k3.toNat) (Zcp _ (by have := aQ; omega)) (by have := aQ; omega)
    obtain ⟨ac, af, ad, rfl⟩ := ao.form
    refine Zba (.slice ac af ad) (by kernel_rfl) ch ?_
    refine q_ (.slice ac af ad) (Za (bW _ _ (sq_ fun bY => sq_ fun bZ => g_' (q_ (i_ 1) (Za (bZ _ _ ?_))))))
    obtain ⟨aa, bF, cK⟩ := bs_ cJ
    refine ZC (fun α az => Has α [(0, U), (5, i_ aa.2)] /\ FrS ab aK az /\ Ow Zq 3 az U aa.1 ab) (fun _ b6 => ?_) (fun α az hM => ?_)
    ·refine Zk ?_
     obtain ⟨a_, bB⟩ := Zv.1 bF
     refine ZJ (fun n α aA => ∃ (O : List (Int × Int × Int)), ∃ (k1 : Int), ∃ (e : Int), ZN (fun zz_ => ZaW k3 zz_.1 zz_.2.1 zz_.2.2) n (O, k1, e) = some aa /\ Has α [(0, U), (1, .func (.func 62) #[] #[]), (5, i_ k1), (6, .slice ac af ad), (7, i_ e)] /\ FrS ab aK aA /\ Ow Zq 3 aA U O ab) a_ ⟨s, k3, 1, bB, ha_, (fr_ Y.wf), bh⟩ ?_
     rintro a_ α aA ⟨O, k1, e, bx, aU, ar, ag⟩ cU a2
     obtain ⟨ba, cP, rfl, an, aF⟩ := Zx bx
     obtain ⟨β, rfl⟩ := Zh aU
     clear aU
     replace an : ZaW k3 O k1 e = some cP := an
     unfold ZaW at an
     refine sq_ fun b8 => sq_ fun b9 => g_' (q_ (i_ e) (q_ (.slice ac af ad) ?_))
     obtain ⟨bD, cX⟩ := ao.sq ag
     refine bD.ln_ 22 (q_ (.bool (decide (e < ((O.drop k3.toNat).length : Int)))) (Za (b9 _ _ ?_)))
     refine wc_ (e < ((O.drop k3.toNat).length : Int)) (fun ae => ?_) fun ae => ?_
     ·have cL := Ze ae an
      refine Zf (b8 _ _ (sq_ fun a6 => Zk (sq_ fun b_ => ?_)))
      refine ZW [0, 1, 2, 3, 4, 5, 6, 7, 8, 9, 10, 11] (by kernel_rfl) ?_
      refine e_' (.func (.func 62) #[] #[]) (e_' (.slice ac af ad) (e_' (i_ e) ?_))
      obtain ⟨aZ, cY⟩ := ao.sq ag
      obtain ⟨au, cj⟩ := Zb cL
      refine aZ.mx_ 22 au ae (me_ 118 0 (.agg #[i_ ((gt (O.drop k3.toNat) e).1), i_ ((gt (O.drop k3.toNat) e).2.1), i_ ((gt (O.drop k3.toNat) e).2.2)]) aZ au ae (e_' (.slice ac af ad) (e_' (i_ e) ?_)))
      obtain ⟨bp, ck⟩ := Zb cj
      refine d_w ((e - 1)) (k := .i64) (x := (e - 1)) (by kernel_rfl) (Zo bp) ?_
      obtain ⟨aW, cV⟩ := ao.sq ag
      obtain ⟨av, cm⟩ := Zb ck
      refine aW.mx_ 22 av.1 av.2 (me_ 118 0 (.agg #[i_ ((gt (O.drop k3.toNat) (e - 1)).1), i_ ((gt (O.drop k3.toNat) (e - 1)).2.1), i_ ((gt (O.drop k3.toNat) (e - 1)).2.2)]) aW av.1 av.2 ?_)
      obtain ⟨bj, bG, bc⟩ := bs_ cm
      refine dk_ (ZfX ar.wf bG) ?_
      rintro _ cQ ⟨rfl, ai⟩
      refine ⟨ZS, ?_⟩
      refine e_' (.bool (!bj)) ?_
      refine ZR ?_
      refine b_ _ _ ?_
      refine wb_ ((!bj)) (fun aB => ?_) fun aB => ?_
      ·have cn := Ze aB bc
       refine sq_ fun bK => g_' (q_ (U) (q_ (i_ k1) (q_ (.slice ac af ad) (q_ (i_ e) ?_))))
       have aH := (ag.fr ai dn_)
       obtain ⟨aX, cW⟩ := ao.sq aH
       refine aX.ix_ 22 au ae (le_ 118 0 (.agg #[i_ ((gt (O.drop k3.toNat) e).1), i_ ((gt (O.drop k3.toNat) e).2.1), i_ ((gt (O.drop k3.toNat) e).2.2)]) aX au ae ?_)
       obtain ⟨aw, cp⟩ := Zb cn
       refine aH.sq.ix_ 22 aw.1 aw.2 ?_
       obtain ⟨cR, cd, bn, bz⟩ := Ow.store (P := Try.prog) (t := 118) (off := 0) ai.wf aH aw.1 aw.2 (.agg #[i_ ((gt (O.drop k3.toNat) e).1), i_ ((gt (O.drop k3.toNat) e).2.1), i_ ((gt (O.drop k3.toNat) e).2.2)]) [i_ ((gt (O.drop k3.toNat) e).1), i_ ((gt (O.drop k3.toNat) e).2.1), i_ ((gt (O.drop k3.toNat) e).2.2)] (by kernel_rfl) (by kernel_rfl) rfl ((gt (O.drop k3.toNat) e).1, (gt (O.drop k3.toNat) e).2.1, (gt (O.drop k3.toNat) e).2.2) (Nat.le_of_ble_eq_true rfl) (by kernel_rfl)
       refine ek_ cd (Za (bK _ _ (g_' (q_ (i_ k1) ?_))))
       obtain ⟨bq, cq⟩ := Zb cp
       refine w_' ((k1 + 1)) (Zo (by have := bq; omega)) (q_ (i_ (k1 + 1)) (Za (a6 _ _ (g_' (q_ (i_ e) ?_)))))
       obtain ⟨br, cr⟩ := Zb cq
       refine w_' ((e + 1)) (Zo (by have := br; omega)) (q_ (i_ (e + 1)) (Za ?_))
       obtain rfl := oi_ cr
       exact a2 ba _ _ lt_ ⟨(O.set k1.toNat ((gt (O.drop k3.toNat) e).1, (gt (O.drop k3.toNat) e).2.1, (gt (O.drop k3.toNat) e).2.2)), (k1 + 1), (e + 1), aF, ha_, (fs_ Y.wf (fs_ Y.wf (fs_ Y.wf (fr_ Y.wf) ar ir_) ai in_) bn ir_), bz⟩
      have cu := ZK aB bc
      refine Zf (a6 _ _ (g_' (q_ (i_ e) ?_)))
      obtain ⟨bs, cv⟩ := Zb cu
      refine w_' ((e + 1)) (Zo (by have := bs; omega)) (q_ (i_ (e + 1)) (Za ?_))
      have cM := (ag.fr ai dn_)
      obtain rfl := oi_ cv
      exact a2 ba _ _ lt_ ⟨O, k1, (e + 1), aF, ha_, (fs_ Y.wf (fs_ Y.wf (fr_ Y.wf) ar ir_) ai in_), cM⟩
     have cw := Zi ae an
     refine ZL (Zj (Zj (ZV ?_)))
     obtain rfl := oi_ cw
     obtain rfl := ZG aF
     exact b6 _ _ ⟨ha_, (fs_ Y.wf (fr_ Y.wf) ar ir_), ag⟩
    obtain ⟨aT, aM, a7⟩ := hM
    obtain ⟨β, rfl⟩ := Zh aT
    clear aT
    refine bY _ _ (sq_ fun bM => g_' (q_ (U) (q_ (i_ aa.2) ?_)))
    obtain ⟨aN, cx⟩ := Zb cK
    obtain ⟨cZ, ce, bi⟩ := Ow.view (P := Try.prog) a7 (t := 22) (by kernel_rfl) (lo := some (i_ aa.2)) (l := aa.2.toNat) (Zcp _ (by have := aN; omega)) (by have := aN; omega)
    obtain ⟨bl, ca, bm, rfl⟩ := bi.form
    refine Zba (.slice bl ca bm) (by kernel_rfl) ce ?_
    obtain ⟨bt, cy⟩ := Zb cx
    obtain ⟨cS, cf, bo, aV⟩ := View.clear (P := Try.prog) (m := 24) (at_ := #[22]) bi ((0, 0, 0) : Int × Int × Int) aM.wf a7 bt rfl (by kernel_rfl)
    refine ZaY (.tuple #[]) (by kernel_rfl) (ZiM cf) ?_
    refine Za (bM _ _ (sq_ fun bO => g_' (q_ (U) (q_ (i_ aa.2) ?_))))
    obtain ⟨aO, cz⟩ := Zb cy
    obtain ⟨c0, cg, aY⟩ := Ow.head (P := Try.prog) aV (t := 22) (by kernel_rfl) (hi := (some (i_ aa.2))) (r := aa.2.toNat) (Zcp _ (by have := aO; omega)) (by have := aO; omega)
    obtain ⟨ap, ay, aq, rfl⟩ := aY.form
    refine Zba (.slice ap ay aq) (by kernel_rfl) cg ?_
    refine q_ (.slice ap ay aq) (Za (bO _ _ ?_))
    refine Zg (Z5 (Zn (Zn (Z5 (Zn (Zn ?_))))))
    obtain ⟨c4, a1, bI⟩ := map_some cz
    subst bI
    obtain rfl := ZG aE
    have bC := elim_inl bd
    rw [bC] at a1
    refine br_ [.slice ap ay aq] ?_
    obtain rfl := oi_ a1
    exact ⟨(.slice ap ay aq), rfl, (fs_ V (fs_ V (fs_ V (fs_ V (fr_ V) aj in_) Y in_) aM ir_) bo ir_), aY, aV⟩
   have cA := ZK aC be
   refine Zf (bU _ _ (g_' (q_ (i_ k3) ?_)))
   obtain ⟨bu, cB⟩ := Zb cA
   refine w_' ((k3 + 1)) (Zo (by have := bu; omega)) (q_ (i_ (k3 + 1)) (Za ?_))
   obtain rfl := oi_ cB
   exact bR cc _ _ lt_ ⟨(k3 + 1), aE, ha_, (fs_ V (fs_ V (f0_ V) aj in_) Y in_)⟩
  have cC := Zi ak am
  refine ZL (Zj (Zj (ZV ?_)))
  obtain rfl := oi_ cC
  obtain rfl := ZG aE
  exact bQ _ _ ⟨_, rfl, ha_, (fs_ V (f0_ V) aj in_)⟩
 obtain ⟨bb, rfl, aR, aL⟩ := hM
 have cD := elim_inr bd
 obtain ⟨β, rfl⟩ := Zh aR
 clear aR
 refine bL _ _ (sq_ fun bP => g_' (q_ (U) (q_ (U) (Za (bP _ _ ?_)))))
 refine Zg ?_
 refine br_ [U] ?_
 have bg := (al.fr aL dn_)
 obtain rfl := oi_ cD
 exact ⟨(U), rfl, (fs_ V (fr_ V) aL in_), bg, bg⟩
theorem ZjL {H : AH} {an : Value} {b5 : Fp} {U : Int} {Arcs : List (Int × Int × Int)} {r : Int × List (Int × Int × Int) × Er}
    (Y : WF H) (a1 : Sq Zq 3 H an Arcs b5) (aK : ZdG U Arcs = some r) :
    ACalls Try.prog 45 #[.agg #[i_ U, an]] H fun v H' => ∃ (bH : Value) (aW : Fp) (bQ : Value) (aX : Fp), v = .tuple #[.agg #[i_ r.1, bH], bQ] /\ FrS [] H H' /\ Ow Zq 3 H' bH r.2.1 aW /\ Ev 90 129 H' bQ r.2.2 aX /\ Inn [] H aW /\ Inn [] H aX /\ Dj aW aX := by
 refine ab_ Try.func45 ?_
 unfold ZdG at aK
 refine sq_ fun cm => g_' ?_
 refine ZbJ Y [i_ U, an] (Zy (rfl) (Zy (a1.one1) (Zau))) (by kernel_rfl) fun bf dt ae dF bF => ?_
 refine rk_ ae.wf [i_ 0, .slice none 0 0] fun aE dy af bm ax => ?_
 refine q_ (.nilIface) (Za (cm _ _ (sq_ fun cr => sq_ fun cu => g_' ?_)))
 have bL := (bF.ext af)
 refine lr_ 24 0 (.agg #[i_ U, an]) bL ?_
 have bM := ((a1.ext ae).ext af)
 obtain ⟨dO, ch, bG⟩ := bs_ aK
 refine ck_ (Zil af.wf bM ch) ?_
 rintro bP dz ⟨_, bZ, rfl, V, bx, bs⟩
 refine q_ (bP) (Za (cu _ _ (sq_ fun bu => g_' (q_ (bP) ?_))))
 rcases (bx).cases with ⟨aZ, rfl⟩ | ⟨aZ, ay, az, rfl⟩
 ·have c6 := Ze aZ bG
  refine q_ (.bool false) (Za (bu _ _ ?_))
  refine wb_ false (fun h => by cases h) fun _ => ?_
  refine Zf (cr _ _ (sq_ fun cv => g_' (q_ (pt_ bf 0) ?_)))
  have bN := (bL.frS V dn_)
  refine lr_ 3 0 (i_ U) bN (q_ (.agg #[i_ U, .slice none 0 0]) ?_)
  refine rk_ V.wf [i_ 0, .slice none 0 0] fun aa dA ai am ap => ?_
  obtain ⟨aA, cN, O, c7⟩ := ra_ 24 0 ai.wf ap [i_ U, .slice none 0 0] [i_ U, .slice none 0 0]
  refine ek_ cN (Za (cv _ _ (sq_ fun cw => sq_ fun cx => g_' (q_ (pt_ bf 1) ?_))))
  have cG := (t_ af.n V.n)
  have bX := (am.djn (bF.ltF.le cG))
  have dk := ((bN.ext ai).frS O bX)
  refine lr_ 22 1 (an) dk ?_
  have aM := (t_ (t_ ae.n af.n) V.n)
  have bh := (am.djn (a1.lt.le aM))
  have bO := (((bM.fr V dn_).ext ai).fr O bh)
  refine bO.ln_ 22 (q_ (i_ 0) (Za (cx _ _ ?_)))
  obtain ⟨bD, ce, c8⟩ := bs_ c6
  refine ZC (fun α aB => ∃ (bc : Value) (aJ : Fp), Has α [(2, pt_ aE 0), (5, pt_ aa 0)] /\ FrS [aa] aA aB /\ Ow Zq 3 aB bc bD aJ /\ Row aB aa [i_ U, bc] /\ Inn [] aA aJ) (fun _ cy => ?_) (fun α aB hM => ?_)
  ·refine Zk ?_
   obtain ⟨bB, cd⟩ := Zv.1 ce
   refine ZJ (fun n α aC => ∃ (e : Int), ∃ (c1 : List (Int × Int × Int)), ∃ (bd : Value), ∃ (aq : Fp), ZN (fun zz_ => ZcK Arcs zz_.1 zz_.2) n (e, c1) = some bD /\ Has α [(2, pt_ aE 0), (5, pt_ aa 0), (18, an), (19, i_ (Arcs.length : Int)), (20, i_ e)] /\ FrS [aa] aA aC /\ Ow Zq 3 aC bd c1 aq /\ Row aC aa [i_ U, bd] /\ Inn [] aA aq) bB ⟨0, [], (.slice none 0 0), [], cd, ha_, (fr_ O.wf), (Ow.nil (by decide)), c7, in_⟩ ?_
   rintro bB α aC ⟨e, c1, bd, aq, ca, bp, ab, ao, a6, aw⟩ dB bv
   obtain ⟨bC, dm, rfl, au, a2⟩ := Zx ca
   obtain ⟨β, rfl⟩ := Zh bp
   clear bp
   replace au : ZcK Arcs e c1 = some dm := au
   unfold ZcK at au
   obtain ⟨aO, ba, aQ, rfl⟩ := ao.form
   refine sq_ fun cz => g_' (q_ (.bool (decide (e < (Arcs.length : Int)))) (Za (cz _ _ (sq_ fun ci => ?_))))
   refine wc_ (e < (Arcs.length : Int)) (fun ar => ?_) fun ar => ?_
   ·have cO := Ze ar au
    refine Zf (ci _ _ (sq_ fun bt => Zk (sq_ fun cj => g_' ?_)))
    obtain ⟨bl, bE⟩ := Zb cO
    have bI := (bO.fr ab bh)
    refine bI.ix_ 22 bl ar (le_ 118 0 (.agg #[i_ ((gt Arcs e).1), i_ ((gt Arcs e).2.1), i_ ((gt Arcs e).2.2)]) bI bl ar ?_)
    refine rk_ ab.wf [i_ 0, i_ 0, i_ 0] fun be dn ac al cP => ?_
    obtain ⟨dp, cH, ad, bb⟩ := ra_ 118 0 ac.wf cP [i_ ((gt Arcs e).1), i_ ((gt Arcs e).2.1), i_ ((gt Arcs e).2.2)] [i_ ((gt Arcs e).1), i_ ((gt Arcs e).2.1), i_ ((gt Arcs e).2.2)]
    refine ek_ cH (Za (cj _ _ (sq_ fun ck => g_' (q_ (pt_ be 0) (lr_ 3 0 (i_ ((gt Arcs e).1)) bb (q_ (pt_ be 1) (lr_ 3 1 (i_ ((gt Arcs e).2.1)) bb (q_ (.bool (!decide (((gt Arcs e).1) = ((gt Arcs e).2.1)))) (Za (ck _ _ ?_))))))))))
    refine ZeC (((gt Arcs e).1) = ((gt Arcs e).2.1)) (by kernel_rfl) rfl (fun aY => ?_) (fun aY => ?_)
    ·have cQ := Zi aY bE
     refine g_' (q_ (pt_ aa 1) ?_)
     have cA := (t_ O.n ab.n)
     have bT := (al.djn (ap.ltF.le cA))
     have bJ := ((a6.ext ac).frS ad bT)
     refine lr_ 22 1 (.slice aO ba aQ) bJ (lr_ 118 0 (.agg #[i_ ((gt Arcs e).1), i_ ((gt Arcs e).2.1), i_ ((gt Arcs e).2.2)]) bb ?_)
     refine Zb9 (enc := Zq) (sz := 3) ad.wf [((gt Arcs e).1, (gt Arcs e).2.1, (gt Arcs e).2.2)] 1 (by decide) (fun _ _ => rfl) (fun _ _ => rfl) rfl (by kernel_rfl) fun dJ dE dq ak dG bq => ?_
     obtain ⟨dC, dI, dD, rfl⟩ := bq.form
     have c9 := (((ao.ext ac).fr ad (al.djn ao.lt)).ext ak)
     obtain ⟨b6, cR⟩ := Zb cQ
     obtain ⟨dK, dr, bY, cI, aU, br, bn⟩ := Ow.append (P := Try.prog) 24 ak.wf c9 bq.sq (fun _ _ => rfl) (at_ := #[22, 22]) rfl rfl (by kernel_rfl) (by kernel_rfl) (by decide) (by have := b6; first | omega | (simp only [List.length_cons, List.length_nil] at this ⊢; omega) | (simp at this ⊢; omega))
     obtain ⟨aD, aL, aF, rfl⟩ := br.form
     refine ZaY (.slice aD aL aF) (by kernel_rfl) (cI) ?_
     refine q_ (pt_ aa 1) ?_
     have bg := (aw.djn (ap.ltF.le O.n))
     have c_ := ((bJ.ext ak).frS aU bg)
     obtain ⟨du, cJ, bi, cS⟩ := rb_ 22 1 aU.wf c_ (.slice aD aL aF) [i_ U, .slice aD aL aF]
     refine ek_ cJ (Za (bt _ _ (g_' ?_)))
     obtain ⟨b7, cT⟩ := Zb cR
     refine w_' ((e + 1)) (Zo (by have := b7; omega)) (q_ (i_ (e + 1)) (Za ?_))
     have cB := (t_ (t_ (t_ (t_ O.n ab.n) ac.n) ad.n) ak.n)
     have bU := (bn.dj bg (ap.ltF.le cB))
     have da := (br.fr bi (Dj.symm bU))
     have cC := (t_ (t_ (t_ ab.n ac.n) ad.n) ak.n)
     obtain rfl := oi_ cT
     exact bv bC _ _ lt_ ⟨(e + 1), (c1 ++ [((gt Arcs e).1, (gt Arcs e).2.1, (gt Arcs e).2.2)]), (.slice aD aL aF), bY, a2, ha_, (fs_ O.wf (fs_ O.wf ((fs_ O.wf ((fs_ O.wf (fr_ O.wf) ab ir_).extR ac) ad (al.fresh ab.n)).extR ak) aU (aw.fresh (Nat.le_refl _))) bi ir_), da, cS, (Inn.trans (aw.fresh (Nat.le_refl _)) cC bn)⟩
    have cU := Ze aY bE
    refine Zf (bt _ _ (g_' ?_))
    obtain ⟨b8, cV⟩ := Zb cU
    refine w_' ((e + 1)) (Zo (by have := b8; omega)) (q_ (i_ (e + 1)) (Za ?_))
    have db := ((ao.ext ac).fr ad (al.djn ao.lt))
    have cD := (t_ O.n ab.n)
    have bV := (al.djn (ap.ltF.le cD))
    have dc := ((a6.ext ac).frS ad bV)
    obtain rfl := oi_ cV
    exact bv bC _ _ lt_ ⟨(e + 1), c1, (.slice aO ba aQ), aq, a2, ha_, (fs_ O.wf ((fs_ O.wf (fr_ O.wf) ab ir_).extR ac) ad (al.fresh ab.n)), db, dc, (aw.fresh (Nat.le_refl _))⟩
   have cW := Zi ar au
   refine ZL (Zj (Zj (ZV ?_)))
   obtain rfl := oi_ cW
   obtain rfl := ZG a2
   exact cy _ _ ⟨(.slice aO ba aQ), aq, ha_, (fs_ O.wf (fr_ O.wf) ab ir_), ao, a6, (aw.fresh (Nat.le_refl _))⟩
  obtain ⟨bc, aJ, bo, aV, bz, bA, av⟩ := hM
  obtain ⟨β, rfl⟩ := Zh bo
  clear bo
  obtain ⟨aN, a7, aP, rfl⟩ := bz.form
  refine cw _ _ (sq_ fun cn => g_' (q_ (pt_ aa 1) (lr_ 22 1 (.slice aN a7 aP) bA ?_)))
  obtain ⟨b9, cX⟩ := Zb c8
  obtain ⟨dM, cf, cY⟩ := bs_ cX
  refine Zju 59 #[.slice aN a7 aP, .func (.func 60) #[] #[]] (by kernel_rfl) (ZmA (enc := Zq) (fun _ => rfl) (by intro x v hv; simp only [Zq, List.mem_cons, List.not_mem_nil, or_false] at hv; rcases hv with rfl | rfl | rfl <;> rfl) (by intro x v hv; simp only [Zq, List.mem_cons, List.not_mem_nil, or_false] at hv; rcases hv with rfl | rfl | rfl <;> rfl) (c := (fun (a_ b_ : Int × Int × Int) => ZbR a_.1 a_.2.1 a_.2.2 b_.1 b_.2.1 b_.2.2)) (Go.Proofs.enters_of Try.func60 (by kernel_rfl) rfl) (fun x y r aK => (ZhR ZmG aK).mono fun v H' h => h.1) aV.wf bz b9 cf) ?_
  rintro _ dv ⟨rfl, aG, cc⟩
  refine Za (cn _ _ (sq_ fun co => g_' (q_ (pt_ aa 1) ?_)))
  have aR := (av.djn (ap.ltF.le O.n))
  have bK := (bA.frS aG aR)
  refine lr_ 22 1 (.slice aN a7 aP) bK ?_
  obtain ⟨dN, cg, cZ⟩ := bs_ cY
  refine ck_ (ZfE aG.wf cc cg) ?_
  rintro dL dw ⟨_, rfl, aH, bw, dH⟩
  obtain ⟨ag, aj, ah, rfl⟩ := bw.form
  refine q_ (pt_ aa 1) ?_
  have dd := (bK.frS aH aR)
  obtain ⟨dx, cK, aI, c0⟩ := rb_ 22 1 aH.wf dd (.slice ag aj ah) [i_ U, .slice ag aj ah]
  refine ek_ cK (Za (co _ _ (sq_ fun cp => g_' (lr_ 24 0 (.agg #[i_ U, .slice ag aj ah]) c0 ?_))))
  have aS := (am.djn (ax.ltF.le V.n))
  have cE := (t_ (t_ V.n ai.n) O.n)
  have aT := (av.djn (ax.ltF.le cE))
  have de := (((((((ax.frS V dn_).ext ai).frS O aS).frS aV aS).frS aG aT).frS aH aT).frS aI aS)
  have df := (bw.fr aI (Dj.symm aR))
  obtain ⟨bR, cL, bj, c3⟩ := ra_ 24 0 aI.wf de [i_ U, .slice ag aj ah] [i_ U, .slice ag aj ah]
  refine ek_ cL (q_ (.nilIface) (Za (cp _ _ ?_)))
  refine Zg ?_
  refine Zan (vs := [.agg #[i_ U, .slice ag aj ah], .nilIface]) (ZQ (Eq.trans (b := aL_ 24 (pt_ aE 0) bR) (by kernel_rfl) (c3.l_)) (rt_ (rfl))) ?_
  have a8 := (t_ (t_ (t_ (t_ ae.n af.n) V.n) ai.n) O.n)
  have dg := (df.fr bj (Dj.symm aT))
  obtain rfl := oi_ cZ
  exact ⟨(.slice ag aj ah), aJ, (.nilIface), [], rfl, (fs_ Y (fs_ Y (fs_ Y (fs_ Y (fs_ Y (fs_ Y ((fs_ Y (((f0_ Y).extR ae).extR af) V in_).extR ai) O (am.fresh aM)) aV (am.fresh aM)) aG (av.fresh a8)) aH (av.fresh a8)) aI (am.fresh aM)) bj (bm.fresh ae.n)), dg, Ev.nil, (av.fresh a8), in_, Dj.nil_r⟩
 have c4 := Zi aZ bG
 refine l_' (.bool true) (ZcD Try.prog .neq 38 (.tmp 10) (.const .nilIface) (.iface ay az) .nilIface) (ZcU (by kernel_rfl)) (Za (bu _ _ ?_))
 refine wb_ true (fun _ => ?_) fun h => by cases h
 refine sq_ fun cq => g_' (q_ (.agg #[i_ 0, .slice none 0 0]) (q_ (.iface ay az) ?_))
 have dh := (ax.frS V dn_)
 obtain ⟨bS, cM, bk, c5⟩ := ra_ 24 0 V.wf dh [i_ 0, .slice none 0 0] [i_ 0, .slice none 0 0]
 refine ek_ cM (q_ (.iface ay az) (Za (cq _ _ ?_)))
 refine Zg (Zn ?_)
 refine Zan (vs := [.agg #[i_ 0, .slice none 0 0], .iface ay az]) (ZQ (Eq.trans (b := aL_ 24 (pt_ aE 0) bS) (by kernel_rfl) (c5.l_)) (rt_ (rfl))) ?_
 have bW := (bs.djn ax.ltF)
 have di := (bx.fr bk (Dj.symm bW))
 have cF := (t_ ae.n af.n)
 obtain rfl := oi_ c4
 exact ⟨(.slice none 0 0), [], (.iface ay az), bZ, rfl, (fs_ Y (fs_ Y (((f0_ Y).extR ae).extR af) V in_) bk (bm.fresh ae.n)), (Ow.nil (by decide)), di, in_, (bs.fresh cF), dn_⟩
theorem Zip {H : AH} {aX : Value} {cI : Fp} {aR : Int} {Arcs : List (Int × Int × Int)} {r : (Er) ⊕ (List (Bool × List (Int × Int × Int) × List (Int × Int × Int)) × Int × Int)}
    (au : WF H) (bG : Sq Zq 3 H aX Arcs cI) (bQ : Zc9 aR Arcs = some r) :
    ACalls Try.prog 22 #[.agg #[i_ aR, aX]] H fun v H' => Sum.elim (fun (r : Er) => ∃ (v3 : Value) (bD : Fp), v = .tuple #[.pointer none, v3] /\ FrS [] H H' /\ Ev 90 129 H' v3 r bD /\ Inn [] H bD) (fun (r : List (Bool × List (Int × Int × Int) × List (Int × Int × Int)) × Int × Int) => ∃ (b6 : Value) (bi : Fp) (aS : Nat), v = .tuple #[pt_ aS 0, .nilIface] /\ FrS [] H H' /\ Nd Zc 3 H' b6 r.1 bi [] /\ Row H' aS [b6, i_ r.2.1, i_ r.2.2] /\ Inn [] H bi /\ Inn [] H [aS] /\ Dj bi [aS]) r := by
 refine ab_ Try.func22 ?_
 unfold Zc9 at bQ
 refine sq_ fun dc => g_' ?_
 refine ZbJ au [i_ aR, aX] (Zy (rfl) (Zy (bG.one1) (Zau))) (by kernel_rfl) fun ek ec ah ew dN => ?_
 refine q_ (.pointer none) (q_ (.nilIface) (Za (dc _ _ (sq_ fun dd => g_' (lr_ 24 0 (.agg #[i_ aR, aX]) dN ?_)))))
 have d4 := (bG.ext ah)
 obtain ⟨e, c5, bZ⟩ := bs_ bQ
 refine ck_ (ZjL ah.wf d4 c5) ?_
 rintro _ ed ⟨eG, f29, a8, cH, rfl, aq, a2, bV, ez, c6, eo⟩
 obtain ⟨av, ay, aw, rfl⟩ := a2.form
 refine q_ (.tuple #[.agg #[i_ e.1, .slice av ay aw], a8]) (q_ (.agg #[i_ e.1, .slice av ay aw]) (q_ (a8) ?_))
 refine rk_ aq.wf [i_ 0, .slice none 0 0] fun aT ee aj aW dT => ?_
 have d8 := (a2.ext aj)
 obtain ⟨ef, dG, ak, b5⟩ := ra_ 24 0 aj.wf dT [i_ e.1, .slice av ay aw] [i_ e.1, .slice av ay aw]
 refine ek_ dG (q_ (a8) (Za (dd _ _ (sq_ fun dg => sq_ fun bS => g_' (q_ (a8) ?_)))))
 have b_ := ((bV.ext aj).fr ak (aW.djn bV.lt))
 rcases (b_).cases with ⟨bj, rfl⟩ | ⟨bj, aL, aO, rfl⟩
 ·have dU := Ze bj bZ
  refine q_ (.bool false) (Za (bS _ _ ?_))
  refine wb_ false (fun h => by cases h) fun _ => ?_
  refine Zf (dg _ _ (sq_ fun dh => ?_))
  refine ZW [0, 1, 2, 3, 4, 5, 6, 7, 8, 9, 10] (by kernel_rfl) ?_
  refine e_' (pt_ aT 0) (mr_ 3 0 (i_ e.1) b5 ?_)
  obtain ⟨bF, dV⟩ := Zb dU
  refine d_mks (t := 114) (m := 56) (l := e.1) (c := e.1) (enc := id) (sz := 3) ak.wf [.bool false, .slice none 0 0, .slice none 0 0] (by kernel_rfl) (by decide) bF.1 (Int.le_refl _) (by omega) (by have := bF; omega) (by kernel_rfl) fun eH aD cf aC bl al => ?_
  replace al := Nd.zeros (enc := Zc) (sz := 3) (by decide) al
  obtain ⟨V, aa, Y, rfl⟩ := al.form
  have al : Nd Zc 3 cf (.slice V aa Y) (List.replicate e.1.toNat (false, [], [])) aD [] := al
  refine e_' (pt_ aT 0) ?_
  have bs := (b5.ext aC)
  refine mr_ 3 0 (i_ e.1) bs (e_' (pt_ aT 1) (mr_ 22 1 (.slice av ay aw) bs ?_))
  have ca := ((d8.fr ak (aW.djn a2.lt)).ext aC)
  refine ca.sq.mn_ 22 (e_' (.agg #[.slice V aa Y, i_ e.1, i_ (e.2.1.length : Int)]) ?_)
  refine d_rwl aC.wf [.slice V aa Y, i_ e.1, i_ (e.2.1.length : Int)] (Zy (al.one1) (Zy (rfl) (Zy (rfl) (Zau)))) (by kernel_rfl) fun ab aQ ac bk am => ?_
  refine e_' (pt_ ab 0) ?_
  refine ZR ?_
  refine dh _ _ (sq_ fun di => sq_ fun dk => g_' (q_ (pt_ aT 1) ?_))
  have d9 := (bs.ext ac)
  refine lr_ 22 1 (.slice av ay aw) d9 ?_
  have cc := (ca.ext ac)
  refine cc.sq.ln_ 22 (q_ (i_ 0) (Za (dk _ _ ?_)))
  obtain ⟨bY, c4, dW⟩ := bs_ dV
  refine ZC (fun α bf => ∃ (aU : Fp), Has α [(6, pt_ ab 0)] /\ FrS aD aQ bf /\ Nd Zc 3 bf (.slice V aa Y) bY aU [] /\ Inn aD aQ aU) (fun _ dm => ?_) (fun α bf hM => ?_)
  ·refine Zk ?_
   obtain ⟨bX, cV⟩ := Zv.1 c4
   have dX := (al.ext ac)
   refine ZJ (fun n α bc => ∃ (O : Int), ∃ (U : List (Bool × List (Int × Int × Int) × List (Int × Int × Int))), ∃ (aG : Fp), ZN (fun zz_ => Zcx e zz_.1 zz_.2) n (O, U) = some bY /\ Has α [(6, pt_ ab 0), (28, .slice av ay aw), (29, i_ (e.2.1.length : Int)), (30, i_ O)] /\ FrS aD aQ bc /\ Nd Zc 3 bc (.slice V aa Y) U aG [] /\ Inn aD aQ aG) bX ⟨0, (List.replicate e.1.toNat (false, [], [])), aD, cV, ha_, (fr_ ac.wf), dX, ir_⟩ ?_
   rintro bX α bc ⟨O, U, aG, cQ, bJ, ai, a1, ax⟩ eg c7
   obtain ⟨dp, ea, rfl, aI, bP⟩ := Zx cQ
   obtain ⟨β, rfl⟩ := Zh bJ
   clear bJ
   replace aI : Zcx e O U = some ea := aI
   unfold Zcx at aI
   refine sq_ fun c8 => g_' (q_ (.bool (decide (O < (e.2.1.length : Int)))) (Za (c8 _ _ (sq_ fun c9 => ?_))))
   refine wc_ (O < (e.2.1.length : Int)) (fun aH => ?_) fun aH => ?_
   ·have dH := Ze aH aI
    refine Zf (c9 _ _ (sq_ fun c_ => Zk (sq_ fun da => g_' ?_)))
    obtain ⟨bE, dI⟩ := Zb dH
    have dq := (t_ aj.n ak.n)
    have cp := (bl.djn (a2.lt.le dq))
    have b7 := (cc.fr ai cp)
    refine b7.sq.ix_ 22 bE aH (le_ 118 0 (.agg #[i_ ((gt e.2.1 O).1), i_ ((gt e.2.1 O).2.1), i_ ((gt e.2.1 O).2.2)]) b7.sq bE aH ?_)
    refine rk_ ai.wf [i_ 0, i_ 0, i_ 0] fun af eb az aV aJ => ?_
    obtain ⟨aP, dB, an, aK⟩ := ra_ 118 0 az.wf aJ [i_ ((gt e.2.1 O).1), i_ ((gt e.2.1 O).2.1), i_ ((gt e.2.1 O).2.2)] [i_ ((gt e.2.1 O).1), i_ ((gt e.2.1 O).2.1), i_ ((gt e.2.1 O).2.2)]
    refine ek_ dB (Za (da _ _ (sq_ fun db => ?_)))
    refine ZW [0, 1, 2, 3, 4, 5, 6, 7, 8, 9, 10, 11, 12, 13, 14, 15, 16, 17, 18, 19, 20, 21, 22, 23, 24, 25] (by kernel_rfl) ?_
    refine e_' (pt_ ab 0) (e_' (pt_ ab 0) (e_' (pt_ ab 0) ?_))
    have bv := (bk.djn al.lt)
    have cq := (aV.djn (am.ltF.le ai.n))
    have bo := (((am.frS ai (Dj.symm bv)).ext az).frS an cq)
    refine Zdf (.slice V aa Y) (x := aL_ 114 (pt_ ab 0) aP) (by kernel_rfl) (bo.l_) ?_
    refine e_' (pt_ af 0) ?_
    refine Zdf (i_ ((gt e.2.1 O).1)) (x := aL_ 3 (pt_ af 0) aP) (by kernel_rfl) (aK.l_) ?_
    refine e_' (pt_ ab 0) (e_' (pt_ ab 0) (e_' (pt_ ab 0) (mr_ 114 0 (.slice V aa Y) bo (e_' (pt_ af 0) (mr_ 3 0 (i_ ((gt e.2.1 O).1)) aK ?_)))))
    obtain ⟨ad, dJ⟩ := Zb dI
    have a7 := ((a1.ext az).fr an (aV.djn a1.lt))
    refine a7.mx_ 114 ad.1 ad.2 (m_' (elp (.slice V aa Y) 3 ((gt e.2.1 O).1).toNat 1) (ZA Try.prog 120 (elp (.slice V aa Y) 3 ((gt e.2.1 O).1).toNat 0) 1) (Nd.fldq (d := 1) a7 ad.1 ad.2 (by kernel_rfl)) ?_)
    obtain ⟨dY, eI, cT, cR⟩ := Nd.at a7 ad.1 ad.2
    have bT : KdS Zc 3 aP dY ((gt U ((gt e.2.1 O).1)).2.1) aG (.slice V aa Y) 3 ((gt e.2.1 O).1).toNat 1 := cR false (by simp)
    obtain ⟨cg, dr, ck, rfl⟩ := bT.sq.form
    refine m_' (.slice cg dr ck) (aL_ 69 (elp (.slice V aa Y) 3 ((gt e.2.1 O).1).toNat 1) aP) (cT _ _ _ _ (by kernel_rfl)) (e_' (pt_ af 1) (mr_ 3 1 (i_ ((gt e.2.1 O).2.1)) aK (e_' (pt_ af 2) (mr_ 3 2 (i_ ((gt e.2.1 O).2.2)) aK ?_))))
    obtain ⟨cJ, dK⟩ := Zb dJ
    refine d_w ((gt e.2.1 O).2.2) (k := .u64) (x := (gt e.2.1 O).2.2) (by kernel_rfl) (Zdr cJ) ?_
    refine e_' (.agg #[i_ ((gt e.2.1 O).2.1), .int .u64 ((gt e.2.1 O).2.2), i_ (-1)]) ?_
    refine Ziy (enc := Zc) (sz := 3) an.wf [((gt e.2.1 O).2.1, (gt e.2.1 O).2.2, (-1))] 1 (by decide) (fun _ _ => rfl) (fun _ _ => rfl) rfl (by kernel_rfl) fun eC ep bd ag ex bL => ?_
    obtain ⟨eh, eA, el, rfl⟩ := bL.form
    have dZ := (a7.ext ag)
    have d0 := (bT.ext ag)
    obtain ⟨cF, eq, aY, cW, bw, cY, cZ⟩ := Nd.borrow false dZ ad.1 ad.2 (by simp) d0 rfl
    have a_ := Inn.sub' (H := bd) cY
    have ba := Inn.sub' (H := bd) cZ
    have aY : Nd Zc 3 bd (.slice V aa Y) U cF [(((gt e.2.1 O).1).toNat, false)] := aY
    obtain ⟨cK, dL⟩ := Zb dK
    obtain ⟨eD, bt, er, dC, ao, bM, bH⟩ := Ow.append (P := Try.prog) 24 ag.wf cW bL.sq (fun _ _ => rfl) (at_ := #[69, 69]) rfl rfl (by kernel_rfl) (by kernel_rfl) (by decide) (by have := cK; first | omega | (simp only [List.length_cons, List.length_nil] at this ⊢; omega) | (simp at this ⊢; omega))
    obtain ⟨ch, dt, cm, rfl⟩ := bM.form
    have bg := (ax.dj (Dj.symm bv) am.ltF)
    have ar := (t_ (t_ (t_ ai.n az.n) an.n) ag.n)
    have cr := (ba.dj bg (am.ltF.le ar))
    have b8 := ((bo.ext ag).frS ao cr)
    have bh := (aV.djn a1.lt)
    have bn := (t_ an.n ag.n)
    have cu := (ba.dj (Dj.symm bh) (aJ.ltF.le bn))
    have b9 := ((aK.ext ag).frS ao cu)
    refine Zg3 (.slice ch dt cm) (by kernel_rfl) (dC) (ZbX (y := aL_ 3 (pt_ af 0) bt) (by kernel_rfl) (b9.l_) (ZbX (y := aL_ 114 (pt_ ab 0) bt) (by kernel_rfl) (b8.l_) (ZS))) ?_
    have bp := (aY.fr ao (Dj.symm bw))
    refine bp.mx_ 114 ad.1 ad.2 (m_' (elp (.slice V aa Y) 3 ((gt e.2.1 O).1).toNat 1) (ZA Try.prog 120 (elp (.slice V aa Y) 3 ((gt e.2.1 O).1).toNat 0) 1) (Nd.fldq (d := 1) bp ad.1 ad.2 (by kernel_rfl)) ?_)
    have cv := (bH.dj (Dj.symm bw) aY.lt)
    obtain ⟨aF, bB, dD, aA, aE, cO⟩ := Nd.close (P := Try.prog) (t := 69) false ao.wf bp bM (Dj.symm cv) ad.1 ad.2 (by kernel_rfl) (by kernel_rfl) (by kernel_rfl)
    have aE : Nd Zc 3 aF (.slice V aa Y) (U.set ((gt e.2.1 O).1).toNat ((gt U ((gt e.2.1 O).1)).1, ((gt U ((gt e.2.1 O).1)).2.1 ++ [((gt e.2.1 O).2.1, (gt e.2.1 O).2.2, (-1))]), (gt U ((gt e.2.1 O).1)).2.2)) bB [] := aE
    have aN := cO.grow3 (Inn.trans ir_ (Nat.le_refl _) a_) (Inn.trans (Inn.trans ir_ (Nat.le_refl _) ba) (Nat.le_refl _) bH) ao.n
    refine fk_ dD (ZaH (by kernel_rfl) (ZaH (by kernel_rfl) (ZS))) ?_
    refine ZR ?_
    refine db _ _ ?_
    refine ZW [0, 1, 2, 3, 4, 5, 6, 7, 8, 9, 10, 11, 12, 13, 14, 15, 16, 17, 18, 19, 20, 21, 22, 23, 24, 25] (by kernel_rfl) ?_
    refine e_' (pt_ ab 0) (e_' (pt_ ab 0) (e_' (pt_ ab 0) ?_))
    have cw := (a_.dj bg (am.ltF.le ar))
    have bq := (b8.frS aA cw)
    refine Zdf (.slice V aa Y) (x := aL_ 114 (pt_ ab 0) aF) (by kernel_rfl) (bq.l_) ?_
    refine e_' (pt_ af 1) ?_
    have cx := (a_.dj (Dj.symm bh) (aJ.ltF.le bn))
    have aM := (b9.frS aA cx)
    refine Zdf (i_ ((gt e.2.1 O).2.1)) (x := aL_ 3 (pt_ af 1) aF) (by kernel_rfl) (aM.l_) ?_
    refine e_' (pt_ ab 0) (e_' (pt_ ab 0) (e_' (pt_ ab 0) (mr_ 114 0 (.slice V aa Y) bq (e_' (pt_ af 1) (mr_ 3 1 (i_ ((gt e.2.1 O).2.1)) aM ?_)))))
    obtain ⟨ae, dM⟩ := Zb dL
    refine aE.mx_ 114 ae.1 ae.2 (m_' (elp (.slice V aa Y) 3 ((gt e.2.1 O).2.1).toNat 2) (ZA Try.prog 120 (elp (.slice V aa Y) 3 ((gt e.2.1 O).2.1).toNat 0) 2) (Nd.fldq (d := 2) aE ae.1 ae.2 (by kernel_rfl)) ?_)
    obtain ⟨eJ, d1, cU, cS⟩ := Nd.at aE ae.1 ae.2
    have bU : KdS Zc 3 aF d1 ((gt (U.set ((gt e.2.1 O).1).toNat ((gt U ((gt e.2.1 O).1)).1, ((gt U ((gt e.2.1 O).1)).2.1 ++ [((gt e.2.1 O).2.1, (gt e.2.1 O).2.2, (-1))]), (gt U ((gt e.2.1 O).1)).2.2)) ((gt e.2.1 O).2.1)).2.2) bB (.slice V aa Y) 3 ((gt e.2.1 O).2.1).toNat 2 := cS true (by simp)
    obtain ⟨ci, du, cn, rfl⟩ := bU.sq.form
    refine m_' (.slice ci du cn) (aL_ 69 (elp (.slice V aa Y) 3 ((gt e.2.1 O).2.1).toNat 2) aF) (cU _ _ _ _ (by kernel_rfl)) (e_' (pt_ af 0) (mr_ 3 0 (i_ ((gt e.2.1 O).1)) aM (e_' (pt_ af 2) (mr_ 3 2 (i_ ((gt e.2.1 O).2.2)) aM ?_))))
    obtain ⟨cL, dO⟩ := Zb dM
    refine d_w ((gt e.2.1 O).2.2) (k := .u64) (x := (gt e.2.1 O).2.2) (by kernel_rfl) (Zdr (by have := cL; omega)) ?_
    refine e_' (.agg #[i_ ((gt e.2.1 O).1), .int .u64 ((gt e.2.1 O).2.2), i_ (-1)]) ?_
    refine Ziy (enc := Zc) (sz := 3) aA.wf [((gt e.2.1 O).1, (gt e.2.1 O).2.2, (-1))] 1 (by decide) (fun _ _ => rfl) (fun _ _ => rfl) rfl (by kernel_rfl) fun eE es be ap ey bN => ?_
    obtain ⟨ej, eB, em, rfl⟩ := bN.form
    have d2 := (aE.ext ap)
    have d3 := (bU.ext ap)
    obtain ⟨cG, et, aZ, cX, bx, c0, c3⟩ := Nd.borrow true d2 ae.1 ae.2 (by simp) d3 rfl
    have cd := Inn.sub' (H := be) c0
    have bb := Inn.sub' (H := be) c3
    have aZ : Nd Zc 3 be (.slice V aa Y) (U.set ((gt e.2.1 O).1).toNat ((gt U ((gt e.2.1 O).1)).1, ((gt U ((gt e.2.1 O).1)).2.1 ++ [((gt e.2.1 O).2.1, (gt e.2.1 O).2.2, (-1))]), (gt U ((gt e.2.1 O).1)).2.2)) cG [(((gt e.2.1 O).2.1).toNat, true)] := aZ
    obtain ⟨cM, dP⟩ := Zb dO
    obtain ⟨eF, bu, eu, dE, aB, bO, bI⟩ := Ow.append (P := Try.prog) 24 ap.wf cX bN.sq (fun _ _ => rfl) (at_ := #[69, 69]) rfl rfl (by kernel_rfl) (by kernel_rfl) (by decide) (by have := cM; first | omega | (simp only [List.length_cons, List.length_nil] at this ⊢; omega) | (simp at this ⊢; omega))
    obtain ⟨cj, dv, co, rfl⟩ := bO.form
    have cy := (aN.dj bg (am.ltF.le ar))
    have a6 := (t_ (t_ (t_ (t_ (t_ (t_ ai.n az.n) an.n) ag.n) ao.n) aA.n) ap.n)
    have cz := (bb.dj cy (am.ltF.le a6))
    have d5 := ((bq.ext ap).frS aB cz)
    have cA := (aN.dj (Dj.symm bh) (aJ.ltF.le bn))
    have dw := (t_ (t_ (t_ (t_ an.n ag.n) ao.n) aA.n) ap.n)
    have cB := (bb.dj cA (aJ.ltF.le dw))
    have d6 := ((aM.ext ap).frS aB cB)
    refine Zg3 (.slice cj dv co) (by kernel_rfl) (dE) (ZbX (y := aL_ 3 (pt_ af 1) bu) (by kernel_rfl) (d6.l_) (ZbX (y := aL_ 114 (pt_ ab 0) bu) (by kernel_rfl) (d5.l_) (ZS))) ?_
    have br := (aZ.fr aB (Dj.symm bx))
    refine br.mx_ 114 ae.1 ae.2 (m_' (elp (.slice V aa Y) 3 ((gt e.2.1 O).2.1).toNat 2) (ZA Try.prog 120 (elp (.slice V aa Y) 3 ((gt e.2.1 O).2.1).toNat 0) 2) (Nd.fldq (d := 2) br ae.1 ae.2 (by kernel_rfl)) ?_)
    have cC := (bI.dj (Dj.symm bx) aZ.lt)
    obtain ⟨ce, bC, dF, cE, bm, cP⟩ := Nd.close (P := Try.prog) (t := 69) true aB.wf br bO (Dj.symm cC) ae.1 ae.2 (by kernel_rfl) (by kernel_rfl) (by kernel_rfl)
    have bm : Nd Zc 3 ce (.slice V aa Y) ((U.set ((gt e.2.1 O).1).toNat ((gt U ((gt e.2.1 O).1)).1, ((gt U ((gt e.2.1 O).1)).2.1 ++ [((gt e.2.1 O).2.1, (gt e.2.1 O).2.2, (-1))]), (gt U ((gt e.2.1 O).1)).2.2)).set ((gt e.2.1 O).2.1).toNat ((gt (U.set ((gt e.2.1 O).1).toNat ((gt U ((gt e.2.1 O).1)).1, ((gt U ((gt e.2.1 O).1)).2.1 ++ [((gt e.2.1 O).2.1, (gt e.2.1 O).2.2, (-1))]), (gt U ((gt e.2.1 O).1)).2.2)) ((gt e.2.1 O).2.1)).1, (gt (U.set ((gt e.2.1 O).1).toNat ((gt U ((gt e.2.1 O).1)).1, ((gt U ((gt e.2.1 O).1)).2.1 ++ [((gt e.2.1 O).2.1, (gt e.2.1 O).2.2, (-1))]), (gt U ((gt e.2.1 O).1)).2.2)) ((gt e.2.1 O).2.1)).2.1, ((gt (U.set ((gt e.2.1 O).1).toNat ((gt U ((gt e.2.1 O).1)).1, ((gt U ((gt e.2.1 O).1)).2.1 ++ [((gt e.2.1 O).2.1, (gt e.2.1 O).2.2, (-1))]), (gt U ((gt e.2.1 O).1)).2.2)) ((gt e.2.1 O).2.1)).2.2 ++ [((gt e.2.1 O).1, (gt e.2.1 O).2.2, (-1))]))) bC [] := bm
    have d_ := cP.grow3 (Inn.trans ir_ (Nat.le_refl _) cd) (Inn.trans (Inn.trans ir_ (Nat.le_refl _) bb) (Nat.le_refl _) bI) aB.n
    refine fk_ dF (ZaH (by kernel_rfl) (ZaH (by kernel_rfl) (ZS))) ?_
    refine ZR ?_
    refine c_ _ _ (g_' ?_)
    obtain ⟨cN, dQ⟩ := Zb dP
    refine w_' ((O + 1)) (Zo (by have := cN; omega)) (q_ (i_ (O + 1)) (Za ?_))
    obtain rfl := oi_ dQ
    exact c7 dp _ _ lt_ ⟨(O + 1), ((U.set ((gt e.2.1 O).1).toNat ((gt U ((gt e.2.1 O).1)).1, ((gt U ((gt e.2.1 O).1)).2.1 ++ [((gt e.2.1 O).2.1, (gt e.2.1 O).2.2, (-1))]), (gt U ((gt e.2.1 O).1)).2.2)).set ((gt e.2.1 O).2.1).toNat ((gt (U.set ((gt e.2.1 O).1).toNat ((gt U ((gt e.2.1 O).1)).1, ((gt U ((gt e.2.1 O).1)).2.1 ++ [((gt e.2.1 O).2.1, (gt e.2.1 O).2.2, (-1))]), (gt U ((gt e.2.1 O).1)).2.2)) ((gt e.2.1 O).2.1)).1, (gt (U.set ((gt e.2.1 O).1).toNat ((gt U ((gt e.2.1 O).1)).1, ((gt U ((gt e.2.1 O).1)).2.1 ++ [((gt e.2.1 O).2.1, (gt e.2.1 O).2.2, (-1))]), (gt U ((gt e.2.1 O).1)).2.2)) ((gt e.2.1 O).2.1)).2.1, ((gt (U.set ((gt e.2.1 O).1).toNat ((gt U ((gt e.2.1 O).1)).1, ((gt U ((gt e.2.1 O).1)).2.1 ++ [((gt e.2.1 O).2.1, (gt e.2.1 O).2.2, (-1))]), (gt U ((gt e.2.1 O).1)).2.2)) ((gt e.2.1 O).2.1)).2.2 ++ [((gt e.2.1 O).1, (gt e.2.1 O).2.2, (-1))]))), bC, bP, ha_, (fs_ ac.wf (fs_ ac.wf ((fs_ ac.wf (fs_ ac.wf ((fs_ ac.wf ((fs_ ac.wf (fr_ ac.wf) ai ir_).extR az) an (aV.fresh ai.n)).extR ag) ao (Inn.trans (Inn.trans ir_ (Nat.le_refl _) ax) ar ba)) aA (Inn.trans (Inn.trans ir_ (Nat.le_refl _) ax) ar a_)).extR ap) aB (Inn.trans (Inn.trans (Inn.trans ir_ (Nat.le_refl _) ax) ar aN) a6 bb)) cE (Inn.trans (Inn.trans (Inn.trans ir_ (Nat.le_refl _) ax) ar aN) a6 cd)), bm, (Inn.trans (Inn.trans (Inn.trans ir_ (Nat.le_refl _) ax) ar aN) a6 d_)⟩
   have dR := Zi aH aI
   refine ZL (Zj (Zj (ZV ?_)))
   obtain rfl := oi_ dR
   obtain rfl := ZG bP
   exact dm _ _ ⟨aG, ha_, (fs_ ac.wf (fr_ ac.wf) ai ir_), a1, (Inn.trans ir_ (Nat.le_refl _) ax)⟩
  obtain ⟨aU, bK, bA, dn, bR⟩ := hM
  obtain ⟨β, rfl⟩ := Zh bK
  clear bK
  refine di _ _ (sq_ fun de => g_' (q_ (pt_ ab 0) (q_ (pt_ ab 0) (q_ (.nilIface) (Za (de _ _ ?_))))))
  refine Zg ?_
  refine br_ [pt_ ab 0, .nilIface] ?_
  have dx := (t_ ah.n aq.n)
  have bW := (t_ (t_ (t_ ah.n aq.n) aj.n) ak.n)
  have bz := (bk.djn al.lt)
  have d7 := (am.frS bA (Dj.symm bz))
  have dy := (t_ (t_ (t_ (t_ (t_ ah.n aq.n) aj.n) ak.n) aC.n) ac.n)
  have dz := (t_ (t_ (t_ (t_ ah.n aq.n) aj.n) ak.n) aC.n)
  have cD := (bR.dj (Dj.symm bz) am.ltF)
  obtain rfl := oi_ dW
  exact (ZjZ ⟨(.slice V aa Y), aU, ab, rfl, (fs_ au (((fs_ au ((fs_ au ((f0_ au).extR ah) aq in_).extR aj) ak (aW.fresh dx)).extR aC).extR ac) bA (bl.fresh bW)), dn, d7, (Inn.trans (bl.fresh bW) dy bR), (bk.fresh dz), cD⟩)
 have dS := Zi bj bZ
 refine l_' (.bool true) (ZcD Try.prog .neq 38 (.tmp 14) (.const .nilIface) (.iface aL aO) .nilIface) (ZcU (by kernel_rfl)) (Za (bS _ _ ?_))
 refine wb_ true (fun _ => ?_) fun h => by cases h
 refine sq_ fun df => g_' (q_ (.iface aL aO) (q_ (.pointer none) (q_ (.iface aL aO) (Za (df _ _ ?_)))))
 refine Zg (Zn ?_)
 refine br_ [.pointer none, .iface aL aO] ?_
 have dA := (t_ ah.n aq.n)
 obtain rfl := oi_ dS
 exact (ZjX ⟨(.iface aL aO), cH, rfl, (fs_ au ((fs_ au ((f0_ au).extR ah) aq in_).extR aj) ak (aW.fresh dA)), b_, (c6.fresh ah.n)⟩)
theorem ZfZ {H : AH} {U : Int} {e : Int} {ac : Int} {V : Int} {O : Int} {ad : Int} {r : Bool}
    (ab : WF H) (ah : ZbL U e ac V O ad = some r) :
    ACalls Try.prog 93 #[.agg #[i_ U, i_ e, i_ ac], .agg #[i_ V, i_ O, i_ ad]] H fun v H' => v = .bool r /\ FrS [] H H' := by
 refine ab_ Try.func93 ?_
 unfold ZbL at ah
 refine sq_ fun k1 => g_' ?_
 refine rl_ ab [i_ U, i_ e, i_ ac] fun b2 aq aa av ap => ?_
 refine rl_ aa.wf [i_ V, i_ O, i_ ad] fun ae ar Y au aj => ?_
 refine q_ (.bool false) (Za (k1 _ _ (sq_ fun ai => g_' (q_ (pt_ b2 0) ?_))))
 have ak := (ap.ext Y)
 refine lr_ 3 0 (i_ U) ak (q_ (pt_ ae 0) (lr_ 3 0 (i_ V) aj ?_))
 refine sb_ (U < V) (fun af => ?_) fun af => ?_
 ·have am := Ze af ah
  refine q_ (.bool true) (n_' (n_' (n_' (n_' (n_' (n_' (n_' (n_' (n_' (n_' (n_' (n_' (q_ (.bool true) (q_ (.bool true) (Za (ai _ _ ?_))))))))))))))))
  refine Zg ?_
  refine br_ [.bool true] ?_
  obtain rfl := oi_ am
  exact ⟨rfl, (((f0_ ab).extR aa).extR Y)⟩
 have al := Zi af ah
 refine q_ (.bool false) (q_ (pt_ b2 0) (lr_ 3 0 (i_ U) ak (q_ (pt_ ae 0) (lr_ 3 0 (i_ V) aj ?_))))
 refine sb_ (U = V) (fun ag => ?_) fun ag => ?_
 ·have an := Ze ag al
  refine q_ (.bool true) (q_ (pt_ b2 1) (lr_ 3 1 (i_ e) ak (q_ (pt_ ae 1) (lr_ 3 1 (i_ O) aj (q_ (.bool (decide (e < O))) (q_ (.bool (decide (e < O))) (q_ (.bool (decide (e < O))) (q_ (.bool (decide (e < O))) (Za (ai _ _ ?_))))))))))
  refine Zg ?_
  refine br_ [.bool (decide (e < O))] ?_
  obtain rfl := oi_ an
  exact ⟨rfl, (((f0_ ab).extR aa).extR Y)⟩
 have ao := Zi ag al
 refine q_ (.bool false) (n_' (n_' (n_' (n_' (n_' (q_ (.bool false) (q_ (.bool false) (q_ (.bool false) (Za (ai _ _ ?_))))))))))
 refine Zg ?_
 refine br_ [.bool false] ?_
 obtain rfl := oi_ ao
 exact ⟨rfl, (((f0_ ab).extR aa).extR Y)⟩
theorem Zgv {H : AH} {O : Value} {bT : Fp} {l : List (Int × Int × Int)} {ad : Int} {Y : Int} {V : Int} {r : List (Int × Int × Int)}
    (ae : WF H) (av : Sq Zq 3 H O l bT) (bm : Zb7 l ad Y V = some r) :
    ACalls Try.prog 74 #[O, .agg #[i_ ad, i_ Y, i_ V]] H fun v H' => ∃ (bB : Value) (a8 : Fp), v = bB /\ FrS [] H H' /\ Ow Zq 3 H' bB r a8 /\ Inn [] H a8 := by
 refine ab_ Try.func74 ?_
 unfold Zb7 at bm
 refine sq_ fun cn => g_' ?_
 refine rl_ ae [i_ ad, i_ Y, i_ V] fun ah a2 U ba ay => ?_
 refine q_ (.slice none 0 0) (Za (cn _ _ (sq_ fun cd => g_' (q_ (i_ 0) (Za (cd _ _ (sq_ fun cf => ?_)))))))
 obtain ⟨e, b_, cP⟩ := bs_ bm
 refine ZC (fun α aZ => Has α [(0, O), (3, pt_ ah 0), (5, i_ e)] /\ FrS [] a2 aZ) (fun _ br => ?_) (fun α aZ hM => ?_)
 ·refine Zk ?_
  obtain ⟨bv, b9⟩ := Zv.1 b_
  refine ZJ (fun n α a1 => ∃ (ac : Int), ZN (fun zz_ => Zbm l ad Y V zz_) n ac = some e /\ Has α [(0, O), (3, pt_ ah 0), (5, i_ ac)] /\ FrS [] a2 a1) bv ⟨0, b9, ha_, (fr_ U.wf)⟩ ?_
  rintro bv α a1 ⟨ac, b8, be, am⟩ dn ci
  obtain ⟨cx, dc, rfl, aw, aU⟩ := Zx b8
  obtain ⟨β, rfl⟩ := Zh be
  clear be
  replace aw : Zbm l ad Y V ac = some dc := aw
  unfold Zbm at aw
  refine sq_ fun cj => sq_ fun bs => ?_
  refine ZW [0, 1, 2, 3, 4, 5, 6, 7, 8, 9, 10, 11] (by kernel_rfl) ?_
  refine e_' (i_ ac) (e_' (O) ?_)
  have aY := ((av.ext U).fr am dn_)
  refine aY.mn_ 22 ?_
  refine db_ (ac < (l.length : Int)) (fun au => ?_) fun au => ?_
  ·have cS := Ze au aw
   refine e_' (.bool true) (e_' (O) (e_' (i_ ac) ?_))
   obtain ⟨a_, cT⟩ := Zb cS
   refine aY.mx_ 22 a_ au (me_ 118 0 (.agg #[i_ ((gt l ac).1), i_ ((gt l ac).2.1), i_ ((gt l ac).2.2)]) aY a_ au ?_)
   have db := (ay.frS am dn_)
   refine mr_ 118 0 (.agg #[i_ ad, i_ Y, i_ V]) db ?_
   obtain ⟨bE, ca, bx⟩ := bs_ cT
   refine dk_ (ZfZ am.wf ca) ?_
   rintro _ dm ⟨rfl, a7⟩
   refine ⟨ZS, ?_⟩
   refine e_' (.bool bE) ?_
   refine ZR ?_
   refine bs _ _ ?_
   refine wb_ (bE) (fun aQ => ?_) fun aQ => ?_
   ·have cU := Ze aQ bx
    refine Zf (cj _ _ (Zk (g_' (q_ (i_ ac) ?_))))
    obtain ⟨bZ, cV⟩ := Zb cU
    refine w_' ((ac + 1)) (Zo (by have := bZ; omega)) (q_ (i_ (ac + 1)) (Za ?_))
    obtain rfl := oi_ cV
    exact ci cx _ _ lt_ ⟨(ac + 1), aU, ha_, (fs_ U.wf (fs_ U.wf (fr_ U.wf) am in_) a7 in_)⟩
   have cW := ZK aQ bx
   refine ZL (Zj (Zj (ZV ?_)))
   obtain rfl := oi_ cW
   obtain rfl := ZG aU
   exact br _ _ ⟨ha_, (fs_ U.wf (fs_ U.wf (fr_ U.wf) am in_) a7 in_)⟩
  have cX := Zi au aw
  refine e_' (.bool false) (j_' (j_' (j_' (j_' (j_' (j_' (e_' (.bool false) ?_)))))))
  refine ZR ?_
  refine bs _ _ ?_
  refine wb_ false (fun h => by cases h) fun _ => ?_
  refine ZL (Zj (Zj (ZV ?_)))
  obtain rfl := oi_ cX
  obtain rfl := ZG aU
  exact br _ _ ⟨ha_, (fs_ U.wf (fr_ U.wf) am in_)⟩
 obtain ⟨bd, aa⟩ := hM
 obtain ⟨β, rfl⟩ := Zh bd
 clear bd
 refine cf _ _ (sq_ fun ck => g_' (q_ (.slice none 0 0) (Za (ck _ _ (sq_ fun cm => g_' (q_ (.slice none 0 0) (q_ (O) (q_ (i_ e) ?_))))))))
 obtain ⟨ao, cY⟩ := Zb cP
 have aK := ((av.ext U).fr aa dn_)
 obtain ⟨dL, cG, bp⟩ := Sq.cut (P := Try.prog) aK (t := 22) (by kernel_rfl) (lo := none) (hi := (some (i_ e))) (l := 0) (r := e.toNat) (rfl) (Zcp _ (by have := ao; omega)) (by have := ao; omega) (by have := ao; omega)
 obtain ⟨bI, cy, bL, rfl⟩ := bp.form
 refine Zba (.slice bI cy bL) (by kernel_rfl) cG ?_
 obtain ⟨b5, cZ⟩ := Zb cY
 obtain ⟨dM, bF, dy, cH, ab, aT, ag⟩ := Ow.append (P := Try.prog) 24 aa.wf (Ow.nil (enc := Zq) (sz := 3) (by decide)) bp (fun _ _ => rfl) (at_ := #[22, 22]) rfl rfl (by kernel_rfl) (by kernel_rfl) (by decide) (by have := b5; first | omega | (simp only [List.length_cons, List.length_nil] at this ⊢; omega) | (simp at this ⊢; omega))
 obtain ⟨aq, ax, ar, rfl⟩ := aT.form
 refine ZaY (.slice aq ax ar) (by kernel_rfl) (cH) ?_
 refine q_ (.slice aq ax ar) (Za (cm _ _ (sq_ fun co => sq_ fun cp => ?_)))
 obtain ⟨bw, bq, bz⟩ := bs_ cZ
 refine ZC (fun α a6 => Has α [(0, O), (3, pt_ ah 0), (5, i_ e), (6, .slice aq ax ar), (49, .bool bw)] /\ bF = a6) (fun _ aV => ?_) (fun α a6 hM => ?_)
 ·refine ZW [0, 1, 2, 3, 4, 5, 6, 7, 8, 9, 10, 11, 12, 13, 14, 15, 16, 17, 18, 19, 20, 21, 22, 23] (by kernel_rfl) ?_
  refine e_' (i_ e) (e_' (O) ?_)
  have ai := (aK.fr ab dn_)
  refine ai.mn_ 22 ?_
  refine db_ (e < (l.length : Int)) (fun af => ?_) fun af => ?_
  ·have c0 := Ze af bq
   refine e_' (.bool true) (e_' (O) (e_' (i_ e) ?_))
   obtain ⟨ap, bA⟩ := Zb c0
   refine ai.mx_ 22 ap af (m_' (elp O 3 e.toNat 0) (ZA Try.prog 118 (elp O 3 e.toNat 0) 0) (Sq.fldq (d := 0) ai ap af (by kernel_rfl)) (me_ 3 0 (i_ ((gt l e).1)) ai ap af (e_' (pt_ ah 0) ?_)))
   have bC := ((ay.frS aa dn_).frS ab dn_)
   refine mr_ 3 0 (i_ ad) bC ?_
   refine db_ (((gt l e).1) = ad) (fun aR => ?_) fun aR => ?_
   ·have c3 := Ze aR bA
    refine e_' (.bool true) (e_' (.bool true) (e_' (O) (e_' (i_ e) (ai.mx_ 22 ap af (m_' (elp O 3 e.toNat 1) (ZA Try.prog 118 (elp O 3 e.toNat 0) 1) (Sq.fldq (d := 1) ai ap af (by kernel_rfl)) (me_ 3 1 (i_ ((gt l e).2.1)) ai ap af (e_' (pt_ ah 1) (mr_ 3 1 (i_ Y) bC (e_' (.bool (decide (((gt l e).2.1) = Y))) (e_' (.bool (decide (((gt l e).2.1) = Y))) ?_))))))))))
    refine ZR ?_
    obtain rfl := oi_ c3
    exact aV _ _ ⟨ha_, rfl⟩
   have c4 := Zi aR bA
   refine e_' (.bool false) (e_' (.bool false) (j_' (j_' (j_' (j_' (j_' (j_' (j_' (j_' (e_' (.bool false) ?_))))))))))
   refine ZR ?_
   obtain rfl := oi_ c4
   exact aV _ _ ⟨ha_, rfl⟩
  have c5 := Zi af bq
  refine e_' (.bool false) (j_' (j_' (j_' (j_' (j_' (j_' (j_' (j_' (e_' (.bool false) (e_' (.bool false) (j_' (j_' (j_' (j_' (j_' (j_' (j_' (j_' (e_' (.bool false) ?_)))))))))))))))))))
  refine ZR ?_
  obtain rfl := oi_ c5
  exact aV _ _ ⟨ha_, rfl⟩
 obtain ⟨bf, rfl⟩ := hM
 obtain ⟨β, rfl⟩ := Zh bf
 clear bf
 refine cp _ _ ?_
 refine wb_ (bw) (fun aS => ?_) fun aS => ?_
 ·have c6 := Ze aS bz
  refine sq_ fun cq => ?_
  refine ZW [0, 1, 2, 3, 4, 5, 6, 7, 8, 9] (by kernel_rfl) ?_
  refine e_' (pt_ ah 2) ?_
  have bD := ((ay.frS aa dn_).frS ab dn_)
  refine mr_ 3 2 (i_ V) bD (e_' (O) (e_' (i_ e) ?_))
  obtain ⟨an, cI⟩ := Zb c6
  have aJ := (aK.fr ab dn_)
  refine aJ.mx_ 22 an.1 an.2 (m_' (elp O 3 e.toNat 2) (ZA Try.prog 118 (elp O 3 e.toNat 0) 2) (Sq.fldq (d := 2) aJ an.1 an.2 (by kernel_rfl)) (me_ 3 2 (i_ ((gt l e).2.2)) aJ an.1 an.2 (m_' (i_ (min V ((gt l e).2.2))) (Zfz Try.prog [i_ V, i_ ((gt l e).2.2)]) (ZfN _ _) (e_' (pt_ ah 2) ?_))))
  obtain ⟨dd, cz, aj, cJ⟩ := rb_ 3 2 ab.wf bD (i_ (min V ((gt l e).2.2))) [i_ ad, i_ Y, i_ (min V ((gt l e).2.2))]
  refine fk_ cz (ZS) ?_
  refine ZR ?_
  refine cq _ _ (sq_ fun cc => g_' (q_ (.slice aq ax ar) (lr_ 118 0 (.agg #[i_ ad, i_ Y, i_ (min V ((gt l e).2.2))]) cJ ?_)))
  refine Zb9 (enc := Zq) (sz := 3) aj.wf [(ad, Y, (min V ((gt l e).2.2)))] 1 (by decide) (fun _ _ => rfl) (fun _ _ => rfl) rfl (by kernel_rfl) fun dD du de ak dz bg => ?_
  obtain ⟨dp, dB, dr, rfl⟩ := bg.form
  have bM := (ag.djn (ay.ltF.le aa.n))
  have c7 := ((aT.fr aj (Dj.symm bM)).ext ak)
  obtain ⟨bU, cK⟩ := Zb cI
  obtain ⟨dE, df, dv, cA, aD, bh, bb⟩ := Ow.append (P := Try.prog) 24 ak.wf c7 bg.sq (fun _ _ => rfl) (at_ := #[22, 22]) rfl rfl (by kernel_rfl) (by kernel_rfl) (by decide) (by have := bU; first | omega | (simp only [List.length_cons, List.length_nil] at this ⊢; omega) | (simp at this ⊢; omega))
  obtain ⟨aL, aW, aN, rfl⟩ := bh.form
  refine ZaY (.slice aL aW aN) (by kernel_rfl) (cA) ?_
  refine q_ (.slice aL aW aN) (Za (cc _ _ (sq_ fun ce => g_' (q_ (.slice aL aW aN) (q_ (O) (q_ (i_ e) ?_))))))
  obtain ⟨bV, cL⟩ := Zb cK
  refine w_' ((e + 1)) (Zo (by have := bV; omega)) ?_
  obtain ⟨aP, cM⟩ := Zb cL
  have aF := (t_ U.n aa.n)
  have bN := (ag.djn (av.lt.le aF))
  have c8 := (((aJ.fr aj (ba.djn av.lt)).ext ak).fr aD bN)
  obtain ⟨dF, cB, bn⟩ := Sq.cut (P := Try.prog) c8 (t := 22) (by kernel_rfl) (lo := (some (i_ (e + 1)))) (hi := none) (l := (e + 1).toNat) (r := l.length) (Zcp _ (by have := aP; omega)) (rfl) (by have := aP; omega) (by have := aP; omega)
  obtain ⟨bG, cr, bJ, rfl⟩ := bn.form
  refine Zba (.slice bG cr bJ) (by kernel_rfl) cB ?_
  obtain ⟨bW, cN⟩ := Zb cM
  obtain ⟨dG, dg, bR, cC, bP, bi, b6⟩ := Ow.append (P := Try.prog) 24 aD.wf bh bn (fun _ _ => rfl) (at_ := #[22, 22]) rfl rfl (by kernel_rfl) (by kernel_rfl) (by decide) (by have := bW; first | omega | (simp only [List.length_cons, List.length_nil] at this ⊢; omega) | (simp at this ⊢; omega))
  obtain ⟨az, aG, aB, rfl⟩ := bi.form
  refine ZaY (.slice az aG aB) (by kernel_rfl) (cC) ?_
  refine q_ (.slice az aG aB) (Za (ce _ _ ?_))
  refine Zg (Zn ?_)
  refine br_ [.slice az aG aB] ?_
  have bt := (t_ (t_ (t_ (t_ U.n aa.n) ab.n) aj.n) ak.n)
  have cu := (t_ (t_ (t_ (t_ (t_ U.n aa.n) ab.n) aj.n) ak.n) aD.n)
  obtain rfl := oi_ cN
  exact ⟨(.slice az aG aB), bR, rfl, (fs_ ae (fs_ ae ((fs_ ae (fs_ ae (fs_ ae ((f0_ ae).extR U) aa in_) ab in_) aj (ba.fresh (Nat.le_refl _))).extR ak) aD (ag.fresh aF)) bP (Inn.trans (ag.fresh aF) bt bb)), bi, (Inn.trans (Inn.trans (ag.fresh aF) bt bb) cu b6)⟩
 have cO := ZK aS bz
 refine Zf (co _ _ (sq_ fun cg => g_' (q_ (.slice aq ax ar) ?_)))
 have c9 := ((ay.frS aa dn_).frS ab dn_)
 refine lr_ 118 0 (.agg #[i_ ad, i_ Y, i_ V]) c9 ?_
 refine Zb9 (enc := Zq) (sz := 3) ab.wf [(ad, Y, V)] 1 (by decide) (fun _ _ => rfl) (fun _ _ => rfl) rfl (by kernel_rfl) fun dH dw dh al dA bj => ?_
 obtain ⟨dq, dC, dt, rfl⟩ := bj.form
 have c_ := (aT.ext al)
 obtain ⟨bX, cQ⟩ := Zb cO
 obtain ⟨dI, di, dx, cD, aE, bk, bc⟩ := Ow.append (P := Try.prog) 24 al.wf c_ bj.sq (fun _ _ => rfl) (at_ := #[22, 22]) rfl rfl (by kernel_rfl) (by kernel_rfl) (by decide) (by have := bX; first | omega | (simp only [List.length_cons, List.length_nil] at this ⊢; omega) | (simp at this ⊢; omega))
 obtain ⟨aM, aX, aO, rfl⟩ := bk.form
 refine ZaY (.slice aM aX aO) (by kernel_rfl) (cD) ?_
 refine q_ (.slice aM aX aO) (Za (cg _ _ (sq_ fun ch => g_' (q_ (.slice aM aX aO) (q_ (O) (q_ (i_ e) ?_))))))
 have aH := (t_ U.n aa.n)
 have bO := (ag.djn (av.lt.le aH))
 have da := (((aK.fr ab dn_).ext al).fr aE bO)
 obtain ⟨dJ, cE, bo⟩ := Sq.cut (P := Try.prog) da (t := 22) (by kernel_rfl) (lo := (some (i_ e))) (hi := none) (l := e.toNat) (r := l.length) (Zcp _ (by have := ao; omega)) (rfl) (by have := ao; omega) (by have := ao; omega)
 obtain ⟨bH, cv, bK, rfl⟩ := bo.form
 refine Zba (.slice bH cv bK) (by kernel_rfl) cE ?_
 obtain ⟨bY, cR⟩ := Zb cQ
 obtain ⟨dK, dk, bS, cF, bQ, bl, b7⟩ := Ow.append (P := Try.prog) 24 aE.wf bk bo (fun _ _ => rfl) (at_ := #[22, 22]) rfl rfl (by kernel_rfl) (by kernel_rfl) (by decide) (by have := bY; first | omega | (simp only [List.length_cons, List.length_nil] at this ⊢; omega) | (simp at this ⊢; omega))
 obtain ⟨aA, aI, aC, rfl⟩ := bl.form
 refine ZaY (.slice aA aI aC) (by kernel_rfl) (cF) ?_
 refine q_ (.slice aA aI aC) (Za (ch _ _ ?_))
 refine Zg ?_
 refine br_ [.slice aA aI aC] ?_
 have bu := (t_ (t_ (t_ U.n aa.n) ab.n) al.n)
 have cw := (t_ (t_ (t_ (t_ U.n aa.n) ab.n) al.n) aE.n)
 obtain rfl := oi_ cR
 exact ⟨(.slice aA aI aC), bS, rfl, (fs_ ae (fs_ ae ((fs_ ae (fs_ ae ((f0_ ae).extR U) aa in_) ab in_).extR al) aE (ag.fresh aH)) bQ (Inn.trans (ag.fresh aH) bu bc)), bl, (Inn.trans (Inn.trans (ag.fresh aH) bu bc) cw b7)⟩
end Go.Vd

/-! (KSb2) -/

set_option maxRecDepth 100000
set_option maxHeartbeats 4000000
set_option linter.unusedVariables false
namespace Go.Vd
open Go.Proofs
attribute [local irreducible] Zm Zp aWp
theorem ZgO {H : AH} {am : Value} {bp : Fp} {U : Int} {Arcs : List (Int × Int × Int)} {r : Int × List (Int × Int × Int)}
    (ap : WF H) (aE : Sq Zq 3 H am Arcs bp) (aW : Zci U Arcs = some r) :
    ACalls Try.prog 63 #[.agg #[i_ U, am]] H fun v H' => ∃ (bd : Value) (aS : Fp), v = .agg #[i_ r.1, bd] /\ FrS [] H H' /\ Ow Zq 3 H' bd r.2 aS /\ Inn [] H aS := by
 refine ab_ Try.func63 ?_
 unfold Zci at aW
 refine sq_ fun bD => g_' ?_
 refine ZbJ ap [i_ U, am] (Zy (rfl) (Zy (aE.one1) (Zau))) (by kernel_rfl) fun aN co ae cu bb => ?_
 refine rk_ ae.wf [i_ 0, .slice none 0 0] fun ay cm ac bs av => ?_
 refine Za (bD _ _ (sq_ fun bz => g_' (q_ (pt_ aN 0) ?_)))
 have be := (bb.ext ac)
 refine lr_ 3 0 (i_ U) be (q_ (.agg #[i_ U, .slice none 0 0]) ?_)
 refine rk_ ac.wf [i_ 0, .slice none 0 0] fun ab cn ad af aw => ?_
 obtain ⟨aq, bR, O, b5⟩ := ra_ 24 0 ad.wf aw [i_ U, .slice none 0 0] [i_ U, .slice none 0 0]
 refine ek_ bR (Za (bz _ _ (sq_ fun bA => sq_ fun bB => g_' (q_ (pt_ aN 1) ?_))))
 have bm := (af.djn (bb.ltF.le ac.n))
 have cg := ((be.ext ad).frS O bm)
 refine lr_ 22 1 (am) cg ?_
 have aI := (t_ ae.n ac.n)
 have aP := (af.djn (aE.lt.le aI))
 have bf := ((((aE.ext ae).ext ac).ext ad).fr O aP)
 refine bf.ln_ 22 (q_ (i_ 0) (Za (bB _ _ ?_)))
 obtain ⟨ba, bv, b6⟩ := bs_ aW
 refine ZC (fun α ar => ∃ (aL : Value) (f46 : Fp), Has α [(2, pt_ ay 0), (3, pt_ ab 0)] /\ FrS [ab] aq ar /\ Ow Zq 3 ar aL ba f46 /\ Row ar ab [i_ U, aL] /\ Inn [] aq f46) (fun _ bC => ?_) (fun α ar hM => ?_)
 ·refine Zk ?_
  obtain ⟨a8, bu⟩ := Zv.1 bv
  refine ZJ (fun n α au => ∃ (e : Int), ∃ (c1 : List (Int × Int × Int)), ∃ (aM : Value), ∃ (ak : Fp), ZN (fun zz_ => ZbE Arcs zz_.1 zz_.2) n (e, c1) = some ba /\ Has α [(2, pt_ ay 0), (3, pt_ ab 0), (10, am), (11, i_ (Arcs.length : Int)), (12, i_ e)] /\ FrS [ab] aq au /\ Ow Zq 3 au aM c1 ak /\ Row au ab [i_ U, aM] /\ Inn [] aq ak) a8 ⟨0, [], (.slice none 0 0), [], bu, ha_, (fr_ O.wf), (Ow.nil (by decide)), b5, in_⟩ ?_
  rintro a8 α au ⟨e, c1, aM, ak, bt, aV, V, ah, aG, aZ⟩ cr a1
  obtain ⟨a_, z66, rfl, an, aF⟩ := Zx bt
  obtain ⟨β, rfl⟩ := Zh aV
  clear aV
  replace an : ZbE Arcs e c1 = some z66 := an
  unfold ZbE at an
  obtain ⟨a70, aJ, aA, rfl⟩ := ah.form
  refine sq_ fun bE => g_' (q_ (.bool (decide (e < (Arcs.length : Int)))) (Za (bE _ _ (sq_ fun bF => ?_))))
  refine wc_ (e < (Arcs.length : Int)) (fun al => ?_) fun al => ?_
  ·have b7 := Ze al an
   refine Zf (bF _ _ (sq_ fun a2 => Zk (sq_ fun bG => g_' ?_)))
   obtain ⟨aT, bc⟩ := Zb b7
   have bg := (bf.fr V aP)
   refine bg.ix_ 22 aT al (le_ 118 0 (.agg #[i_ ((gt Arcs e).1), i_ ((gt Arcs e).2.1), i_ ((gt Arcs e).2.2)]) bg aT al ?_)
   refine rk_ V.wf [i_ 0, i_ 0, i_ 0] fun aO cp Y ag b8 => ?_
   obtain ⟨cq, bS, aa, aK⟩ := ra_ 118 0 Y.wf b8 [i_ ((gt Arcs e).1), i_ ((gt Arcs e).2.1), i_ ((gt Arcs e).2.2)] [i_ ((gt Arcs e).1), i_ ((gt Arcs e).2.1), i_ ((gt Arcs e).2.2)]
   refine ek_ bS (Za (bG _ _ (sq_ fun bH => g_' (q_ (pt_ aO 0) (lr_ 3 0 (i_ ((gt Arcs e).1)) aK (q_ (pt_ aO 1) (lr_ 3 1 (i_ ((gt Arcs e).2.1)) aK (q_ (.bool (!decide (((gt Arcs e).1) = ((gt Arcs e).2.1)))) (Za (bH _ _ ?_))))))))))
   refine ZeC (((gt Arcs e).1) = ((gt Arcs e).2.1)) (by kernel_rfl) rfl (fun aD => ?_) (fun aD => ?_)
   ·have b9 := Zi aD bc
    refine g_' (q_ (pt_ ab 1) ?_)
    have bO := (t_ O.n V.n)
    have bn := (ag.djn (aw.ltF.le bO))
    have bh := ((aG.ext Y).frS aa bn)
    refine lr_ 22 1 (.slice a70 aJ aA) bh (lr_ 118 0 (.agg #[i_ ((gt Arcs e).1), i_ ((gt Arcs e).2.1), i_ ((gt Arcs e).2.2)]) aK ?_)
    have ch := ((ah.ext Y).fr aa (ag.djn ah.lt))
    obtain ⟨ci, bw, bT⟩ := bs_ b9
    refine ck_ (Zgv aa.wf ch.sq bw) ?_
    rintro cv cj ⟨_, bo, rfl, aB, a6, aX⟩
    obtain ⟨ax, aH, az, rfl⟩ := a6.form
    refine q_ (pt_ ab 1) ?_
    have b_ := (bh.frS aB dn_)
    obtain ⟨ck, bP, aQ, bU⟩ := rb_ 22 1 aB.wf b_ (.slice ax aH az) [i_ U, .slice ax aH az]
    refine ek_ bP (Za (a2 _ _ (g_' ?_)))
    obtain ⟨bq, bV⟩ := Zb bT
    refine w_' ((e + 1)) (Zo (by have := bq; omega)) (q_ (i_ (e + 1)) (Za ?_))
    have bJ := (t_ (t_ (t_ O.n V.n) Y.n) aa.n)
    have bj := (aX.djn (aw.ltF.le bJ))
    have ca := (a6.fr aQ (Dj.symm bj))
    have bK := (t_ (t_ V.n Y.n) aa.n)
    obtain rfl := oi_ bV
    exact a1 a_ _ _ lt_ ⟨(e + 1), ci, (.slice ax aH az), bo, aF, ha_, (fs_ O.wf (fs_ O.wf (fs_ O.wf ((fs_ O.wf (fr_ O.wf) V ir_).extR Y) aa (ag.fresh V.n)) aB in_) aQ ir_), ca, bU, (aX.fresh bK)⟩
   have bW := Ze aD bc
   refine Zf (a2 _ _ (g_' ?_))
   obtain ⟨br, bX⟩ := Zb bW
   refine w_' ((e + 1)) (Zo (by have := br; omega)) (q_ (i_ (e + 1)) (Za ?_))
   have cc := ((ah.ext Y).fr aa (ag.djn ah.lt))
   have bL := (t_ O.n V.n)
   have bk := (ag.djn (aw.ltF.le bL))
   have cd := ((aG.ext Y).frS aa bk)
   obtain rfl := oi_ bX
   exact a1 a_ _ _ lt_ ⟨(e + 1), c1, (.slice a70 aJ aA), ak, aF, ha_, (fs_ O.wf ((fs_ O.wf (fr_ O.wf) V ir_).extR Y) aa (ag.fresh V.n)), cc, cd, (aZ.fresh (Nat.le_refl _))⟩
  have bY := Zi al an
  refine ZL (Zj (Zj (ZV ?_)))
  obtain rfl := oi_ bY
  obtain rfl := ZG aF
  exact bC _ _ ⟨(.slice a70 aJ aA), ak, ha_, (fs_ O.wf (fr_ O.wf) V ir_), ah, aG, (aZ.fresh (Nat.le_refl _))⟩
 obtain ⟨aL, f46, aU, aC, a7, bI, aY⟩ := hM
 obtain ⟨β, rfl⟩ := Zh aU
 clear aU
 obtain ⟨ai, ao, aj, rfl⟩ := a7.form
 refine bA _ _ (sq_ fun bx => g_' (lr_ 24 0 (.agg #[i_ U, .slice ai ao aj]) bI ?_))
 have ce := (((av.ext ad).frS O (af.djn av.ltF)).frS aC (af.djn av.ltF))
 obtain ⟨bi, bQ, aR, bZ⟩ := ra_ 24 0 aC.wf ce [i_ U, .slice ai ao aj] [i_ U, .slice ai ao aj]
 refine ek_ bQ (Za (bx _ _ ?_))
 refine Zg ?_
 refine Zan (vs := [.agg #[i_ U, .slice ai ao aj]]) (ZQ (Eq.trans (b := aL_ 24 (pt_ ay 0) bi) (by kernel_rfl) (bZ.l_)) (rfl)) ?_
 have bM := (t_ ad.n O.n)
 have bl := (aY.djn (av.ltF.le bM))
 have cf := (a7.fr aR (Dj.symm bl))
 have bN := (t_ (t_ (t_ ae.n ac.n) ad.n) O.n)
 obtain rfl := oi_ b6
 exact ⟨(.slice ai ao aj), f46, rfl, (fs_ ap (fs_ ap (fs_ ap ((((f0_ ap).extR ae).extR ac).extR ad) O (af.fresh aI)) aC (af.fresh aI)) aR (bs.fresh ae.n)), cf, (aY.fresh bN)⟩
theorem ZfO {H : AH} {al : Value} {bg : Fp} {aj : Int} {Arcs : List (Int × Int × Int)} {r : Int × List (Int × Int × Int) × Int × List (Int × Int)}
    (V : WF H) (az : Sq Zq 3 H al Arcs bg) (aN : Zbx aj Arcs = some r) :
    ACalls Try.prog 47 #[.agg #[i_ aj, al]] H fun v H' => ∃ (aT : Value) (aw : Fp) (aU : Value) (ax : Fp), v = .tuple #[.agg #[i_ r.1, aT], .agg #[i_ r.2.2.1, aU]] /\ FrS [] H H' /\ Ow Zq 3 H' aT r.2.1 aw /\ Ow Zbv 2 H' aU r.2.2.2 ax /\ Inn [] H aw /\ Inn [] H ax /\ Dj aw ax := by
 refine ab_ Try.func47 ?_
 unfold Zbx at aN
 refine sq_ fun bk => g_' ?_
 refine ZbJ V [i_ aj, al] (Zy (rfl) (Zy (az.one1) (Zau))) (by kernel_rfl) fun cg b_ ab ch aQ => ?_
 refine rk_ ab.wf [i_ 0, .slice none 0 0] fun aG ca ac aM ag => ?_
 refine rk_ ac.wf [i_ 0, .slice none 0 0] fun aH cc O aq ai => ?_
 refine Za (bk _ _ (sq_ fun bl => sq_ fun bm => g_' ?_))
 have aV := ((aQ.ext ac).ext O)
 refine lr_ 24 0 (.agg #[i_ aj, al]) aV ?_
 have aW := (((az.ext ab).ext ac).ext O)
 obtain ⟨ah, bi, bJ⟩ := bs_ aN
 refine ck_ (Zdv O.wf aW bi) ?_
 rintro _ cd ⟨cj, bf, rfl, e, aC, aB⟩
 obtain ⟨a45, af, ae, rfl⟩ := aC.form
 refine rk_ e.wf [i_ 0, .slice none 0 0] fun aI ce Y ad bK => ?_
 have bU := (aC.ext Y)
 obtain ⟨cf, bD, aa, aR⟩ := ra_ 79 0 Y.wf bK [i_ ah.1, .slice a45 af ae] [i_ ah.1, .slice a45 af ae]
 refine ek_ bD (Za (bm _ _ (sq_ fun bn => g_' (lr_ 79 0 (.agg #[i_ ah.1, .slice a45 af ae]) aR ?_))))
 have aX := (bU.fr aa (ad.djn aC.lt))
 obtain ⟨b7, bj, aS⟩ := bs_ bJ
 refine ck_ (ZbW aa.wf aX.sq bj) ?_
 rintro _ aZ ⟨rfl, U⟩
 refine Za (bn _ _ ?_)
 refine wb_ (b7) (fun ay => ?_) fun ay => ?_
 ·have bL := Ze ay aS
  refine sq_ fun bo => ?_
  refine ZW [0, 1, 2, 3] (by kernel_rfl) ?_
  refine e_' (.agg #[i_ 0, .slice none 0 0]) ?_
  have aY := (aR.frS U dn_)
  refine Zdf (.agg #[i_ ah.1, .slice a45 af ae]) (x := aL_ 79 (pt_ aI 0) aZ) (by kernel_rfl) (aY.l_) ?_
  have bv := (t_ O.n e.n)
  have aK := (ad.djn (ag.ltF.le bv))
  have bV := (((((ag.ext O).frS e dn_).ext Y).frS aa aK).frS U dn_)
  obtain ⟨a1, bE, ak, bM⟩ := ra_ 24 0 U.wf bV [i_ 0, .slice none 0 0] [i_ 0, .slice none 0 0]
  have bW := (aY.frS ak (Dj.symm aK))
  refine fk_ bE (ZbX (y := aL_ 79 (pt_ aI 0) a1) (by kernel_rfl) (bW.l_) (ZS)) ?_
  have a_ := (ad.djn (ai.ltF.le e.n))
  have aL := (aq.djn ag.ltF)
  have bX := (((((ai.frS e dn_).ext Y).frS aa a_).frS U dn_).frS ak (Dj.symm aL))
  have ba := (aB.djn (ag.ltF.le O.n))
  have bY := ((aX.fr U dn_).fr ak (Dj.symm ba))
  obtain ⟨aF, bF, av, bN⟩ := ra_ 79 0 ak.wf bX [i_ ah.1, .slice a45 af ae] [i_ ah.1, .slice a45 af ae]
  refine fk_ bF (ZaH (by kernel_rfl) (ZS)) ?_
  refine ZR ?_
  refine bo _ _ ?_
  refine Zg (Zn ?_)
  have bZ := (bM.frS av aL)
  refine Zan (vs := [.agg #[i_ 0, .slice none 0 0], .agg #[i_ ah.1, .slice a45 af ae]]) (ZQ (Eq.trans (b := aL_ 24 (pt_ aG 0) aF) (by kernel_rfl) (bZ.l_)) (ZQ (Eq.trans (b := aL_ 79 (pt_ aH 0) aF) (by kernel_rfl) (bN.l_)) (rfl))) ?_
  have bw := (t_ (t_ (t_ ab.n ac.n) O.n) e.n)
  have bx := (t_ ab.n ac.n)
  have bb := (aB.djn ai.ltF)
  have b5 := (bY.fr av (Dj.symm bb))
  have bz := (t_ (t_ ab.n ac.n) O.n)
  obtain rfl := oi_ bL
  exact ⟨(.slice none 0 0), [], (.slice a45 af ae), bf, rfl, (fs_ V (fs_ V (fs_ V (fs_ V ((fs_ V ((((f0_ V).extR ab).extR ac).extR O) e in_).extR Y) aa (ad.fresh bw)) U in_) ak (aM.fresh ab.n)) av (aq.fresh bx)), (Ow.nil (by decide)), b5, in_, (aB.fresh bz), dn_⟩
 have bO := ZK ay aS
 refine Zf (bl _ _ (sq_ fun bp => g_' ?_))
 have bA := (t_ (t_ ac.n O.n) e.n)
 have bc := (ad.djn (aQ.ltF.le bA))
 have b6 := ((((aV.frS e dn_).ext Y).frS aa bc).frS U dn_)
 refine lr_ 24 0 (.agg #[i_ aj, al]) b6 ?_
 have aP := (t_ (t_ (t_ ab.n ac.n) O.n) e.n)
 have bd := (ad.djn (az.lt.le aP))
 have bP := ((((aW.fr e dn_).ext Y).fr aa bd).fr U dn_)
 obtain ⟨aD, bh, bG⟩ := bs_ bO
 refine ck_ (ZgO U.wf bP bh) ?_
 rintro _ b8 ⟨ci, be, rfl, ao, aO, aA⟩
 obtain ⟨am, ar, an, rfl⟩ := aO.form
 refine q_ (.agg #[i_ 0, .slice none 0 0]) ?_
 have bq := (t_ O.n e.n)
 have a2 := (ad.djn (ag.ltF.le bq))
 have bQ := ((((((ag.ext O).frS e dn_).ext Y).frS aa a2).frS U dn_).frS ao dn_)
 obtain ⟨b9, bB, ap, bH⟩ := ra_ 24 0 ao.wf bQ [i_ aD.1, .slice am ar an] [i_ aD.1, .slice am ar an]
 refine ek_ bB ?_
 have a6 := (ad.djn (ai.ltF.le e.n))
 have aJ := (aq.djn ag.ltF)
 have bR := ((((((ai.frS e dn_).ext Y).frS aa a6).frS U dn_).frS ao dn_).frS ap (Dj.symm aJ))
 obtain ⟨aE, bC, au, bI⟩ := ra_ 79 0 ap.wf bR [i_ 0, .slice none 0 0] [i_ 0, .slice none 0 0]
 refine ek_ bC (Za (bp _ _ ?_))
 refine Zg ?_
 have bS := (bH.frS au aJ)
 refine Zan (vs := [.agg #[i_ aD.1, .slice am ar an], .agg #[i_ 0, .slice none 0 0]]) (ZQ (Eq.trans (b := aL_ 24 (pt_ aG 0) aE) (by kernel_rfl) (bS.l_)) (ZQ (Eq.trans (b := aL_ 79 (pt_ aH 0) aE) (by kernel_rfl) (bI.l_)) (rfl))) ?_
 have br := (t_ ab.n ac.n)
 have bs := (t_ (t_ (t_ (t_ O.n e.n) Y.n) aa.n) U.n)
 have a7 := (aA.djn (ag.ltF.le bs))
 have bt := (t_ (t_ (t_ e.n Y.n) aa.n) U.n)
 have a8 := (aA.djn (ai.ltF.le bt))
 have bT := ((aO.fr ap (Dj.symm a7)).fr au (Dj.symm a8))
 have bu := (t_ (t_ (t_ (t_ (t_ (t_ ab.n ac.n) O.n) e.n) Y.n) aa.n) U.n)
 obtain rfl := oi_ bG
 exact ⟨(.slice am ar an), be, (.slice none 0 0), [], rfl, (fs_ V (fs_ V (fs_ V (fs_ V (fs_ V ((fs_ V ((((f0_ V).extR ab).extR ac).extR O) e in_).extR Y) aa (ad.fresh aP)) U in_) ao in_) ap (aM.fresh ab.n)) au (aq.fresh br)), bT, (Ow.nil (by decide)), (aA.fresh bu), in_, Dj.nil_r⟩
theorem Zgh {H : AH} {ay : Value} {b6 : Fp} {ab : Int} {Arcs : List (Int × Int × Int)} {r : List (Bool) × List (Int × Int × Int × Int)}
    (ar : WF H) (aP : Sq Zq 3 H ay Arcs b6) (bx : Zb3 ab Arcs = some r) :
    ACalls Try.prog 48 #[.agg #[i_ ab, ay]] H fun v H' => ∃ (bG : Value) (aY : Fp) (bH : Value) (aZ : Fp), v = .agg #[bG, bH] /\ FrS [] H H' /\ Ow Zc2 1 H' bG r.1 aY /\ Ow Zr 4 H' bH r.2 aZ /\ Inn [] H aY /\ Inn [] H aZ /\ Dj aY aZ := by
 refine ab_ Try.func48 ?_
 unfold Zb3 at bx
 refine sq_ fun ck => g_' ?_
 refine ZbJ ar [i_ ab, ay] (Zy (rfl) (Zy (aP.one1) (Zau))) (by kernel_rfl) fun aI dv al dJ bb => ?_
 refine rk_ al.wf [.slice none 0 0, .slice none 0 0] fun av dB af ca aE => ?_
 refine Za (ck _ _ (sq_ fun cu => g_' (q_ (pt_ aI 0) ?_)))
 have bL := (bb.ext af)
 refine lr_ 3 0 (i_ ab) bL ?_
 obtain ⟨bn, c9⟩ := Zb bx
 refine Zkp (t := 30) (m := 1) (l := ab) (c := ab) (enc := Zc2) (sz := 1) af.wf (false : Bool) (by kernel_rfl) (by decide) bn.1 (Int.le_refl _) (by omega) (by have := bn; omega) (by kernel_rfl) fun dO ap bO ae aq ai => ?_
 obtain ⟨V, aa, Y, rfl⟩ := ai.form
 have ai : Ow Zc2 1 bO (.slice V aa Y) (List.replicate ab.toNat (false : Bool)) ap := ai
 refine q_ (.agg #[.slice V aa Y, .slice none 0 0]) ?_
 refine rk_ ae.wf [.slice none 0 0, .slice none 0 0] fun ad dC ag ah aT => ?_
 have dp := (ai.ext ag)
 obtain ⟨bf, cV, U, bc⟩ := ra_ 33 0 ag.wf aT [.slice V aa Y, .slice none 0 0] [.slice V aa Y, .slice none 0 0]
 refine ek_ cV (Za (cu _ _ (sq_ fun cv => sq_ fun cw => g_' (q_ (pt_ ad 0) (lr_ 30 0 (.slice V aa Y) bc ?_)))))
 have bM := (dp.fr U (ah.djn ai.lt))
 refine bM.sq.ln_ 30 (q_ (i_ 0) (Za (cw _ _ ?_)))
 obtain ⟨bF, ci, c_⟩ := bs_ c9
 refine ZC (fun α ak => Has α [(1, pt_ aI 0), (2, pt_ av 0), (3, pt_ ad 0)] /\ FrS ap bf ak /\ Ow Zc2 1 ak (.slice V aa Y) bF ap) (fun _ cx => ?_) (fun α ak hM => ?_)
 ·refine Zk ?_
  obtain ⟨bD, cg⟩ := Zv.1 ci
  refine ZJ (fun n α aU => ∃ (ac : Int), ∃ (aC : List (Bool)), ZN (fun zz_ => Zbd ab zz_.1 zz_.2) n (ac, aC) = some bF /\ Has α [(1, pt_ aI 0), (2, pt_ av 0), (3, pt_ ad 0), (13, i_ ((List.replicate ab.toNat (false : Bool)).length : Int)), (14, i_ ac)] /\ FrS ap bf aU /\ Ow Zc2 1 aU (.slice V aa Y) aC ap) bD ⟨0, (List.replicate ab.toNat (false : Bool)), cg, ha_, (fr_ U.wf), bM⟩ ?_
  rintro bD α aU ⟨ac, aC, cd, bs, aL, a7⟩ dF cy
  obtain ⟨cP, du, rfl, aA, bw⟩ := Zx cd
  obtain ⟨β, rfl⟩ := Zh bs
  clear bs
  replace aA : Zbd ab ac aC = some du := aA
  unfold Zbd at aA
  refine sq_ fun cz => g_' (q_ (.bool (decide (ac < ((List.replicate ab.toNat (false : Bool)).length : Int)))) (Za (cz _ _ (sq_ fun cA => ?_))))
  refine wc_ (ac < ((List.replicate ab.toNat (false : Bool)).length : Int)) (fun a1 => ?_) fun a1 => ?_
  ·have da := Ze a1 aA
   refine Zf (cA _ _ (sq_ fun cB => Zk (sq_ fun cC => g_' (q_ (i_ ac) (q_ (i_ ac) (Za (cC _ _ (g_' (q_ (pt_ ad 0) ?_)))))))))
   have bW := (ah.djn ai.lt)
   have dq := (bc.frS aL (Dj.symm bW))
   refine lr_ 30 0 (.slice V aa Y) dq (q_ (i_ ac) ?_)
   obtain ⟨aO, db⟩ := Zb da
   refine a7.sq.ix_ 30 aO.1 aO.2 ?_
   obtain ⟨dD, cW, bZ, ce⟩ := Ow.store (P := Try.prog) (t := 4) (off := 0) aL.wf a7 aO.1 aO.2 (.bool true) [.bool true] (by kernel_rfl) (by kernel_rfl) rfl true (Nat.le_of_ble_eq_true rfl) (by kernel_rfl)
   refine ek_ cW (Za (cB _ _ (g_' ?_)))
   obtain ⟨b_, dc⟩ := Zb db
   refine w_' ((ac + 1)) (Zo (by have := b_; omega)) (q_ (i_ (ac + 1)) (Za ?_))
   obtain rfl := oi_ dc
   exact cy cP _ _ lt_ ⟨(ac + 1), (aC.set ac.toNat true), bw, ha_, (fs_ U.wf (fs_ U.wf (fr_ U.wf) aL ir_) bZ ir_), ce⟩
  have dd := Zi a1 aA
  refine ZL (Zj (Zj (ZV ?_)))
  obtain rfl := oi_ dd
  obtain rfl := ZG bw
  exact cx _ _ ⟨ha_, (fs_ U.wf (fr_ U.wf) aL ir_), a7⟩
 obtain ⟨br, O, cG⟩ := hM
 obtain ⟨β, rfl⟩ := Zh br
 clear br
 refine cv _ _ (sq_ fun cD => sq_ fun cE => g_' (q_ (pt_ aI 1) ?_))
 have cQ := (t_ af.n ae.n)
 have bX := (ah.djn (bb.ltF.le cQ))
 have bY := (aq.djn (bb.ltF.le af.n))
 have dr := ((((bL.ext ae).ext ag).frS U bX).frS O bY)
 refine lr_ 22 1 (ay) dr ?_
 have a_ := (t_ (t_ al.n af.n) ae.n)
 have bk := (ah.djn (aP.lt.le a_))
 have a8 := (t_ al.n af.n)
 have bP := (aq.djn (aP.lt.le a8))
 have bI := ((((((aP.ext al).ext af).ext ae).ext ag).fr U bk).fr O bP)
 refine bI.ln_ 22 (q_ (i_ 0) (Za (cE _ _ ?_)))
 obtain ⟨bE, ch, cX⟩ := bs_ c_
 refine ZC (fun α aF => ∃ (bd : Value) (aM : Fp), Has α [(2, pt_ av 0), (3, pt_ ad 0)] /\ FrS [ad] ak aF /\ Ow Zr 4 aF bd bE aM /\ Row aF ad [.slice V aa Y, bd] /\ Inn [] ak aM) (fun _ cj => ?_) (fun α aF hM => ?_)
 ·refine Zk ?_
  obtain ⟨bB, cf⟩ := Zv.1 ch
  have bQ := (ah.djn ai.lt)
  have de := (bc.frS O (Dj.symm bQ))
  refine ZJ (fun n α aG => ∃ (e : Int), ∃ (aD : List (Int × Int × Int × Int)), ∃ (be : Value), ∃ (aN : Fp), ZN (fun zz_ => Zbf Arcs zz_.1 zz_.2) n (e, aD) = some bE /\ Has α [(2, pt_ av 0), (3, pt_ ad 0), (23, ay), (24, i_ (Arcs.length : Int)), (25, i_ e)] /\ FrS [ad] ak aG /\ Ow Zr 4 aG be aD aN /\ Row aG ad [.slice V aa Y, be] /\ Inn [] ak aN) bB ⟨0, [], (.slice none 0 0), [], cf, ha_, (fr_ O.wf), (Ow.nil (by decide)), de, in_⟩ ?_
  rintro bB α aG ⟨e, aD, be, aN, cc, bq, aj, aR, bA, aQ⟩ dE cm
  obtain ⟨cH, dt, rfl, az, bv⟩ := Zx cc
  obtain ⟨β, rfl⟩ := Zh bq
  clear bq
  replace az : Zbf Arcs e aD = some dt := az
  unfold Zbf at az
  obtain ⟨bg, bC, bh, rfl⟩ := aR.form
  refine sq_ fun cn => g_' (q_ (.bool (decide (e < (Arcs.length : Int)))) (Za (cn _ _ (sq_ fun co => ?_))))
  refine wc_ (e < (Arcs.length : Int)) (fun ax => ?_) fun ax => ?_
  ·have cY := Ze ax az
   refine Zf (co _ _ (sq_ fun cp => Zk (sq_ fun cq => g_' ?_)))
   obtain ⟨bm, cZ⟩ := Zb cY
   have bJ := (bI.fr aj bk)
   refine bJ.ix_ 22 bm ax (le_ 118 0 (.agg #[i_ ((gt Arcs e).1), i_ ((gt Arcs e).2.1), i_ ((gt Arcs e).2.2)]) bJ bm ax ?_)
   refine rk_ aj.wf [i_ 0, i_ 0, i_ 0] fun aV dw am a2 c0 => ?_
   obtain ⟨dx, cR, an, ba⟩ := ra_ 118 0 am.wf c0 [i_ ((gt Arcs e).1), i_ ((gt Arcs e).2.1), i_ ((gt Arcs e).2.2)] [i_ ((gt Arcs e).1), i_ ((gt Arcs e).2.1), i_ ((gt Arcs e).2.2)]
   refine ek_ cR (Za (cq _ _ (g_' (q_ (pt_ ad 1) ?_))))
   have cI := (t_ (t_ U.n O.n) aj.n)
   have bR := (a2.djn (aT.ltF.le cI))
   have bK := ((bA.ext am).frS an bR)
   refine lr_ 31 1 (.slice bg bC bh) bK (q_ (pt_ aV 0) (lr_ 3 0 (i_ ((gt Arcs e).1)) ba (q_ (pt_ aV 1) (lr_ 3 1 (i_ ((gt Arcs e).2.1)) ba (q_ (pt_ aV 2) (lr_ 3 2 (i_ ((gt Arcs e).2.2)) ba ?_))))))
   obtain ⟨b7, c3⟩ := Zb cZ
   refine s_w ((gt Arcs e).2.2) (k := .u64) (x := (gt Arcs e).2.2) (by kernel_rfl) (Zdr b7) ?_
   refine q_ (.agg #[i_ ((gt Arcs e).1), i_ ((gt Arcs e).2.1), .int .u64 ((gt Arcs e).2.2), i_ (-1)]) ?_
   refine Zb9 (enc := Zr) (sz := 4) an.wf [((gt Arcs e).1, (gt Arcs e).2.1, (gt Arcs e).2.2, (-1))] 1 (by decide) (fun _ _ => rfl) (fun _ _ => rfl) rfl (by kernel_rfl) fun dM dI dy ao dK bt => ?_
   obtain ⟨dG, dL, dH, rfl⟩ := bt.form
   have df := (((aR.ext am).fr an (a2.djn aR.lt)).ext ao)
   obtain ⟨b8, c4⟩ := Zb c3
   obtain ⟨dN, dz, b5, cS, aW, bu, bo⟩ := Ow.append (P := Try.prog) 32 ao.wf df bt.sq (fun _ _ => rfl) (at_ := #[31, 31]) rfl rfl (by kernel_rfl) (by kernel_rfl) (by decide) (by have := b8; first | omega | (simp only [List.length_cons, List.length_nil] at this ⊢; omega) | (simp at this ⊢; omega))
   obtain ⟨aH, aS, aJ, rfl⟩ := bu.form
   refine ZaY (.slice aH aS aJ) (by kernel_rfl) (cS) ?_
   refine q_ (pt_ ad 1) ?_
   have cJ := (t_ U.n O.n)
   have bi := (aQ.djn (aT.ltF.le cJ))
   have dg := ((bK.ext ao).frS aW bi)
   obtain ⟨dA, cT, bl, c5⟩ := rb_ 31 1 aW.wf dg (.slice aH aS aJ) [.slice V aa Y, .slice aH aS aJ]
   refine ek_ cT (Za (cp _ _ (g_' ?_)))
   obtain ⟨b9, c6⟩ := Zb c4
   refine w_' ((e + 1)) (Zo (by have := b9; omega)) (q_ (i_ (e + 1)) (Za ?_))
   have cK := (t_ (t_ (t_ (t_ (t_ U.n O.n) aj.n) am.n) an.n) ao.n)
   have bS := (bo.dj bi (aT.ltF.le cK))
   have dh := (bu.fr bl (Dj.symm bS))
   have cL := (t_ (t_ (t_ aj.n am.n) an.n) ao.n)
   obtain rfl := oi_ c6
   exact cm cH _ _ lt_ ⟨(e + 1), (aD ++ [((gt Arcs e).1, (gt Arcs e).2.1, (gt Arcs e).2.2, (-1))]), (.slice aH aS aJ), b5, bv, ha_, (fs_ O.wf (fs_ O.wf ((fs_ O.wf ((fs_ O.wf (fr_ O.wf) aj ir_).extR am) an (a2.fresh aj.n)).extR ao) aW (aQ.fresh (Nat.le_refl _))) bl ir_), dh, c5, (Inn.trans (aQ.fresh (Nat.le_refl _)) cL bo)⟩
  have c7 := Zi ax az
  refine ZL (Zj (Zj (ZV ?_)))
  obtain rfl := oi_ c7
  obtain rfl := ZG bv
  exact cj _ _ ⟨(.slice bg bC bh), aN, ha_, (fs_ O.wf (fr_ O.wf) aj ir_), aR, bA, (aQ.fresh (Nat.le_refl _))⟩
 obtain ⟨bd, aM, bp, aK, bz, cF, a6⟩ := hM
 obtain ⟨β, rfl⟩ := Zh bp
 clear bp
 obtain ⟨au, aB, aw, rfl⟩ := bz.form
 refine cD _ _ (sq_ fun cr => g_' (lr_ 33 0 (.agg #[.slice V aa Y, .slice au aB aw]) cF ?_))
 have bj := (ah.djn (aE.ltF.le ae.n))
 have di := (((((aE.ext ae).ext ag).frS U bj).frS O (aq.djn aE.ltF)).frS aK bj)
 have dk := (cG.fr aK (ah.djn ai.lt))
 obtain ⟨bN, cU, aX, c8⟩ := ra_ 33 0 aK.wf di [.slice V aa Y, .slice au aB aw] [.slice V aa Y, .slice au aB aw]
 refine ek_ cU (Za (cr _ _ ?_))
 refine Zg ?_
 refine Zan (vs := [.agg #[.slice V aa Y, .slice au aB aw]]) (ZQ (Eq.trans (b := aL_ 33 (pt_ av 0) bN) (by kernel_rfl) (c8.l_)) (rfl)) ?_
 have bT := (aq.djn aE.ltF)
 have dm := (dk.fr aX (Dj.symm bT))
 have cM := (t_ (t_ (t_ ae.n ag.n) U.n) O.n)
 have bU := (a6.djn (aE.ltF.le cM))
 have dn := (bz.fr aX (Dj.symm bU))
 have cN := (t_ (t_ (t_ (t_ (t_ al.n af.n) ae.n) ag.n) U.n) O.n)
 have cO := (t_ (t_ ag.n U.n) O.n)
 have bV := (a6.djn (ai.lt.le cO))
 obtain rfl := oi_ cX
 exact ⟨(.slice V aa Y), ap, (.slice au aB aw), aM, rfl, (fs_ ar (fs_ ar (fs_ ar (fs_ ar (((((f0_ ar).extR al).extR af).extR ae).extR ag) U (ah.fresh a_)) O (aq.fresh a8)) aK (ah.fresh a_)) aX (ca.fresh al.n)), dm, dn, (aq.fresh a8), (a6.fresh cN), (Dj.symm bV)⟩
theorem Zft {H : AH} {aI : Value} {bM : Fp} {az : Int} {Arcs : List (Int × Int × Int)} {r : List (Bool) × List (Int × Int × Int × Int) × Int × List (Int × Int)}
    (aa : WF H) (a6 : Sq Zq 3 H aI Arcs bM) (a8 : Zbj az Arcs = some r) :
    ACalls Try.prog 29 #[.agg #[i_ az, aI]] H fun v H' => ∃ (bi : Value) (aF : Fp) (bj : Value) (aG : Fp) (bh : Value) (aE : Fp), v = .tuple #[.agg #[bi, bj], .agg #[i_ r.2.2.1, bh]] /\ FrS [] H H' /\ Ow Zc2 1 H' bi r.1 aF /\ Ow Zr 4 H' bj r.2.1 aG /\ Ow Zbv 2 H' bh r.2.2.2 aE /\ Inn [] H aF /\ Inn [] H aG /\ Inn [] H aE /\ Dj aF aG /\ Dj aF aE /\ Dj aG aE := by
 refine ab_ Try.func29 ?_
 unfold Zbj at a8
 refine sq_ fun bR => g_' ?_
 refine ZbJ aa [i_ az, aI] (Zy (rfl) (Zy (a6.one1) (Zau))) (by kernel_rfl) fun c6 cW ad c_ cu => ?_
 refine rk_ ad.wf [.slice none 0 0, .slice none 0 0] fun aV cX af a7 aj => ?_
 refine rk_ af.wf [i_ 0, .slice none 0 0] fun aW cY O aH ak => ?_
 refine Za (bR _ _ (sq_ fun bS => g_' ?_))
 have cP := ((cu.ext af).ext O)
 refine lr_ 24 0 (.agg #[i_ az, aI]) cP ?_
 have cQ := (((a6.ext ad).ext af).ext O)
 obtain ⟨Y, bO, cv⟩ := bs_ a8
 refine ck_ (ZfO O.wf cQ bO) ?_
 rintro _ cZ ⟨dd, c9, de, f47, rfl, e, aL, aq, da, ap, c8⟩
 obtain ⟨ar, ay, av, rfl⟩ := aL.form
 obtain ⟨ab, ae, ac, rfl⟩ := aq.form
 refine q_ (.tuple #[.agg #[i_ Y.1, .slice ar ay av], .agg #[i_ Y.2.2.1, .slice ab ae ac]]) (q_ (.agg #[i_ Y.1, .slice ar ay av]) (q_ (.agg #[i_ Y.2.2.1, .slice ab ae ac]) ?_))
 refine rk_ e.wf [i_ 0, .slice none 0 0] fun c7 c0 U am bf => ?_
 refine rk_ U.wf [i_ 0, .slice none 0 0] fun au c3 ag al cw => ?_
 have cR := (bf.ext ag)
 have cS := ((aL.ext U).ext ag)
 obtain ⟨c4, cj, ah, cx⟩ := ra_ 24 0 ag.wf cR [i_ Y.1, .slice ar ay av] [i_ Y.1, .slice ar ay av]
 refine ek_ cj ?_
 have a2 := (al.djn bf.ltF)
 have cT := (cw.frS ah (Dj.symm a2))
 have cU := (((aq.ext U).ext ag).fr ah (am.djn aq.lt))
 obtain ⟨c5, ck, ai, aQ⟩ := ra_ 79 0 ah.wf cT [i_ Y.2.2.1, .slice ab ae ac] [i_ Y.2.2.1, .slice ab ae ac]
 refine ek_ ck (Za (bS _ _ (sq_ fun bT => sq_ fun bU => g_' (lr_ 79 0 (.agg #[i_ Y.2.2.1, .slice ab ae ac]) aQ ?_))))
 have bJ := (al.djn (aq.lt.le U.n))
 have aR := (cU.fr ai bJ)
 obtain ⟨cV, bP, bg⟩ := bs_ cv
 refine ck_ (ZbW ai.wf aR.sq bP) ?_
 rintro _ aU ⟨rfl, V⟩
 refine Za (bU _ _ ?_)
 refine wb_ (cV) (fun aP => ?_) fun aP => ?_
 ·have cy := Ze aP bg
  refine sq_ fun bV => ?_
  refine ZW [0, 1, 2, 3] (by kernel_rfl) ?_
  refine e_' (.agg #[.slice none 0 0, .slice none 0 0]) ?_
  have bk := (aQ.frS V dn_)
  refine Zdf (.agg #[i_ Y.2.2.1, .slice ab ae ac]) (x := aL_ 79 (pt_ au 0) aU) (by kernel_rfl) (bk.l_) ?_
  have bW := (t_ O.n e.n)
  have bq := (am.djn (aj.ltF.le bW))
  have bX := (t_ (t_ O.n e.n) U.n)
  have aX := (al.djn (aj.ltF.le bX))
  have cz := (((((((aj.ext O).frS e dn_).ext U).ext ag).frS ah bq).frS ai aX).frS V dn_)
  obtain ⟨bn, cf, aw, cm⟩ := ra_ 33 0 V.wf cz [.slice none 0 0, .slice none 0 0] [.slice none 0 0, .slice none 0 0]
  have cA := (bk.frS aw (Dj.symm aX))
  refine fk_ cf (ZbX (y := aL_ 79 (pt_ au 0) bn) (by kernel_rfl) (cA.l_) (ZS)) ?_
  have br := (am.djn (ak.ltF.le e.n))
  have bY := (t_ e.n U.n)
  have bs := (al.djn (ak.ltF.le bY))
  have aY := (aH.djn aj.ltF)
  have cB := (((((((ak.frS e dn_).ext U).ext ag).frS ah br).frS ai bs).frS V dn_).frS aw (Dj.symm aY))
  have bt := (ap.djn (aj.ltF.le O.n))
  have cC := ((aR.fr V dn_).fr aw (Dj.symm bt))
  obtain ⟨aS, cg, aO, cn⟩ := ra_ 79 0 aw.wf cB [i_ Y.2.2.1, .slice ab ae ac] [i_ Y.2.2.1, .slice ab ae ac]
  refine fk_ cg (ZaH (by kernel_rfl) (ZS)) ?_
  refine ZR ?_
  refine bV _ _ ?_
  refine Zg (Zn ?_)
  have cD := (cm.frS aO aY)
  refine Zan (vs := [.agg #[.slice none 0 0, .slice none 0 0], .agg #[i_ Y.2.2.1, .slice ab ae ac]]) (ZQ (Eq.trans (b := aL_ 33 (pt_ aV 0) aS) (by kernel_rfl) (cD.l_)) (ZQ (Eq.trans (b := aL_ 79 (pt_ aW 0) aS) (by kernel_rfl) (cn.l_)) (rfl))) ?_
  have bZ := (t_ (t_ (t_ ad.n af.n) O.n) e.n)
  have b5 := (t_ (t_ (t_ (t_ ad.n af.n) O.n) e.n) U.n)
  have b6 := (t_ ad.n af.n)
  have bu := (ap.djn ak.ltF)
  have cE := (cC.fr aO (Dj.symm bu))
  have b7 := (t_ (t_ ad.n af.n) O.n)
  obtain rfl := oi_ cy
  exact ⟨(.slice none 0 0), [], (.slice none 0 0), [], (.slice ab ae ac), f47, rfl, (fs_ aa (fs_ aa (fs_ aa (fs_ aa (fs_ aa (((fs_ aa ((((f0_ aa).extR ad).extR af).extR O) e in_).extR U).extR ag) ah (am.fresh bZ)) ai (al.fresh b5)) V in_) aw (a7.fresh ad.n)) aO (aH.fresh b6)), (Ow.nil (by decide)), (Ow.nil (by decide)), cE, in_, in_, (ap.fresh b7), dn_, dn_, dn_⟩
 have co := ZK aP bg
 refine Zf (bT _ _ (sq_ fun bQ => ?_))
 refine ZW [0, 2, 1, 3, 4] (by kernel_rfl) ?_
 have cF := ((cx.frS ai a2).frS V dn_)
 refine mr_ 24 0 (.agg #[i_ Y.1, .slice ar ay av]) cF ?_
 have bl := (aQ.frS V dn_)
 refine Zdf (.agg #[i_ Y.2.2.1, .slice ab ae ac]) (x := aL_ 79 (pt_ au 0) aU) (by kernel_rfl) (bl.l_) ?_
 have bv := (al.djn (aL.lt.le U.n))
 have cG := (((cS.fr ah (am.djn aL.lt)).fr ai bv).fr V dn_)
 obtain ⟨df, bN, cp⟩ := bs_ co
 refine dk_ (Zgh V.wf cG.sq bN) ?_
 rintro _ bo ⟨db, bK, dc, bL, rfl, ao, a_, ba, aJ, aK, bw⟩
 obtain ⟨aA, aM, aC, rfl⟩ := a_.form
 obtain ⟨aB, aN, aD, rfl⟩ := ba.form
 have bm := (bl.frS ao dn_)
 refine ⟨ZbX (y := aL_ 79 (pt_ au 0) bo) (by kernel_rfl) (bm.l_) (ZS), ?_⟩
 have b8 := (t_ O.n e.n)
 have bx := (am.djn (aj.ltF.le b8))
 have b9 := (t_ (t_ O.n e.n) U.n)
 have aZ := (al.djn (aj.ltF.le b9))
 have cH := ((((((((aj.ext O).frS e dn_).ext U).ext ag).frS ah bx).frS ai aZ).frS V dn_).frS ao dn_)
 obtain ⟨bp, ch, an, cq⟩ := ra_ 33 0 ao.wf cH [.slice aA aM aC, .slice aB aN aD] [.slice aA aM aC, .slice aB aN aD]
 have cI := (bm.frS an (Dj.symm aZ))
 refine fk_ ch (ZbX (y := aL_ 79 (pt_ au 0) bp) (by kernel_rfl) (cI.l_) (ZS)) ?_
 have bz := (am.djn (ak.ltF.le e.n))
 have b_ := (t_ e.n U.n)
 have bA := (al.djn (ak.ltF.le b_))
 have a1 := (aH.djn aj.ltF)
 have cJ := ((((((((ak.frS e dn_).ext U).ext ag).frS ah bz).frS ai bA).frS V dn_).frS ao dn_).frS an (Dj.symm a1))
 have bB := (ap.djn (aj.ltF.le O.n))
 have cK := (((aR.fr V dn_).fr ao dn_).fr an (Dj.symm bB))
 obtain ⟨aT, ci, ax, cr⟩ := ra_ 79 0 an.wf cJ [i_ Y.2.2.1, .slice ab ae ac] [i_ Y.2.2.1, .slice ab ae ac]
 refine fk_ ci (ZaH (by kernel_rfl) (ZS)) ?_
 refine ZR ?_
 refine bQ _ _ ?_
 refine Zg ?_
 have cL := (cq.frS ax a1)
 refine Zan (vs := [.agg #[.slice aA aM aC, .slice aB aN aD], .agg #[i_ Y.2.2.1, .slice ab ae ac]]) (ZQ (Eq.trans (b := aL_ 33 (pt_ aV 0) aT) (by kernel_rfl) (cL.l_)) (ZQ (Eq.trans (b := aL_ 79 (pt_ aW 0) aT) (by kernel_rfl) (cr.l_)) (rfl))) ?_
 have ca := (t_ (t_ (t_ ad.n af.n) O.n) e.n)
 have cc := (t_ (t_ (t_ (t_ ad.n af.n) O.n) e.n) U.n)
 have cd := (t_ ad.n af.n)
 have bb := (t_ (t_ (t_ (t_ (t_ (t_ O.n e.n) U.n) ag.n) ah.n) ai.n) V.n)
 have bC := (aJ.djn (aj.ltF.le bb))
 have bc := (t_ (t_ (t_ (t_ (t_ e.n U.n) ag.n) ah.n) ai.n) V.n)
 have bD := (aJ.djn (ak.ltF.le bc))
 have cM := ((a_.fr an (Dj.symm bC)).fr ax (Dj.symm bD))
 have bE := (aK.djn (aj.ltF.le bb))
 have bF := (aK.djn (ak.ltF.le bc))
 have cN := ((ba.fr an (Dj.symm bE)).fr ax (Dj.symm bF))
 have bG := (ap.djn ak.ltF)
 have cO := (cK.fr ax (Dj.symm bG))
 have bd := (t_ (t_ (t_ (t_ (t_ (t_ (t_ (t_ ad.n af.n) O.n) e.n) U.n) ag.n) ah.n) ai.n) V.n)
 have ce := (t_ (t_ ad.n af.n) O.n)
 have be := (t_ (t_ (t_ (t_ U.n ag.n) ah.n) ai.n) V.n)
 have bH := (aJ.djn (aq.lt.le be))
 have bI := (aK.djn (aq.lt.le be))
 obtain rfl := oi_ cp
 exact ⟨(.slice aA aM aC), bK, (.slice aB aN aD), bL, (.slice ab ae ac), f47, rfl, (fs_ aa (fs_ aa (fs_ aa (fs_ aa (fs_ aa (fs_ aa (((fs_ aa ((((f0_ aa).extR ad).extR af).extR O) e in_).extR U).extR ag) ah (am.fresh ca)) ai (al.fresh cc)) V in_) ao in_) an (a7.fresh ad.n)) ax (aH.fresh cd)), cM, cN, cO, (aJ.fresh bd), (aK.fresh bd), (ap.fresh ce), bw, bH, bI⟩
theorem ZY {H : AH} {O : Nat} {V : Value} {ai : Fp} {U : List (Bool × List (Int × Int × Int) × List (Int × Int × Int))} {af : Int} {ag : Int} {e : Int} {r : Bool}
    (ar : WF H) (aa : Nd Zc 3 H V U ai []) (ae : Row H O [V, i_ af, i_ ag]) (ad : ZF U af ag e = some r) :
    ACalls Try.prog 24 #[pt_ O 0, i_ e] H fun v H' => v = .bool r /\ H = H' := by
 refine ab_ Try.func24 ?_
 unfold ZF at ad
 refine sq_ fun k1 => g_' (q_ (.bool false) (Za (k1 _ _ (sq_ fun k2 => g_' (q_ (pt_ O 0) (q_ (.bool true) (q_ (.bool true) (q_ (i_ e) ?_))))))))
 refine sb_ (e ≥ 0) (fun ac => ?_) fun ac => ?_
 ·have ah := Ze ac ad
  refine q_ (.bool true) (q_ (.bool true) (q_ (i_ e) (q_ (pt_ O 0) (q_ (pt_ O 0) (q_ (pt_ O 0) (lr_ 114 0 (V) ae (aa.ln_ 114 ?_)))))))
  refine sb_ (e < (U.length : Int)) (fun Y => ?_) fun Y => ?_
  ·have am := Ze Y ah
   refine q_ (.bool true) (q_ (.bool true) (q_ (pt_ O 0) (q_ (pt_ O 0) (q_ (pt_ O 0) (lr_ 114 0 (V) ae (q_ (i_ e) ?_))))))
   obtain ⟨ab, an⟩ := Zb am
   refine aa.ix_ 114 ab Y (l_' (elp V 3 e.toNat 0) (ZA Try.prog 120 (elp V 3 e.toNat 0) 0) (Nd.fldq (d := 0) aa ab Y (by kernel_rfl)) ?_)
   obtain ⟨aq, ap, aj, ao⟩ := Nd.at aa ab Y
   refine l_' (.bool ((gt U e).1)) (aL_ 4 (elp V 3 e.toNat 0) H) (aj _ _ _ _ (by kernel_rfl)) (q_ (.bool (!(gt U e).1)) (q_ (.bool (!(gt U e).1)) (q_ (.bool (!(gt U e).1)) (Za (k2 _ _ ?_)))))
   refine Zg ?_
   refine br_ [.bool (!(gt U e).1)] ?_
   obtain rfl := oi_ an
   exact ⟨rfl, rfl⟩
  have ak := Zi Y ah
  refine q_ (.bool false) (q_ (.bool false) (n_' (n_' (n_' (n_' (n_' (n_' (n_' (n_' (n_' (q_ (.bool false) (q_ (.bool false) (Za (k2 _ _ ?_))))))))))))))
  refine Zg ?_
  refine br_ [.bool false] ?_
  obtain rfl := oi_ ak
  exact ⟨rfl, rfl⟩
 have al := Zi ac ad
 refine q_ (.bool false) (q_ (.bool false) (n_' (n_' (n_' (n_' (n_' (n_' (n_' (q_ (.bool false) (q_ (.bool false) (n_' (n_' (n_' (n_' (n_' (n_' (n_' (n_' (n_' (q_ (.bool false) (q_ (.bool false) (Za (k2 _ _ ?_)))))))))))))))))))))))
 refine Zg ?_
 refine br_ [.bool false] ?_
 obtain rfl := oi_ al
 exact ⟨rfl, rfl⟩
theorem ZeJ {H : AH} {e : Int} {V : Int} {U : Int} {O : Int} {r : Int}
    (aa : WF H) (Y : ZcA e V U O = some r) :
    ACalls Try.prog 76 #[.agg #[i_ e, .int .u64 V, i_ U], i_ O] H fun v H' => v = i_ r /\ FrS [] H H' := by
 refine ab_ Try.func76 ?_
 unfold ZcA at Y
 refine sq_ fun k1 => g_' ?_
 refine rl_ aa [i_ e, .int .u64 V, i_ U] fun b2 ae ab af ad => ?_
 refine q_ (i_ 0) (Za (k1 _ _ (sq_ fun ac => g_' (q_ (pt_ b2 0) (lr_ 3 0 (i_ e) ad (q_ (i_ O) (q_ (i_ (IntKind.i64.wrap (e - O))) (q_ (i_ (IntKind.i64.wrap (e - O))) (Za (ac _ _ ?_))))))))))
 refine Zg ?_
 refine br_ [i_ (IntKind.i64.wrap (e - O))] ?_
 obtain rfl := oi_ Y
 exact ⟨rfl, ((f0_ aa).extR ab)⟩
theorem Zex {H : AH} {Y : Value} {aD : Fp} {x : List (Int × Int × Int)} {target : Int} {r : Int × Bool}
    (U : WF H) (ai : Sq Zc 3 H Y x aD) (aq : Zbt x target = some r) :
    ACalls Try.prog 75 #[Y, i_ target, .func (.func 76) #[] #[]] H fun v H' => v = .tuple #[i_ r.1, .bool r.2] /\ FrS [] H H' := by
 refine ab_ Try.func75 ?_
 unfold Zbt at aq
 refine sq_ fun k1 => g_' (q_ (i_ 0) (q_ (.bool false) (Za (k1 _ _ (sq_ fun k2 => g_' (q_ (Y) (ai.ln_ 69 (q_ (i_ (x.length : Int)) (Za (k2 _ _ (sq_ fun k3 => g_' (q_ (i_ (x.length : Int)) (q_ (i_ 0) (q_ (i_ (x.length : Int)) (Za (k3 _ _ (sq_ fun aS => ?_)))))))))))))))))
 obtain ⟨V, aK, ay⟩ := bs_ aq
 refine ZC (fun α al => Has α [(0, Y), (1, i_ target), (2, .func (.func 76) #[] #[]), (8, i_ (x.length : Int)), (9, i_ V)] /\ FrS [] H al) (fun _ aN => ?_) (fun α al hM => ?_)
 ·refine Zk ?_
  obtain ⟨av, aJ⟩ := Zv.1 aK
  refine ZJ (fun n α ak => ∃ (O : Int), ∃ (e : Int), ZN (fun zz_ => Zat x target zz_.1 zz_.2) n (O, e) = some V /\ Has α [(0, Y), (1, i_ target), (2, .func (.func 76) #[] #[]), (8, i_ (x.length : Int)), (9, i_ e), (10, i_ O)] /\ FrS [] H ak) av ⟨(x.length : Int), 0, aJ, ha_, (f0_ U)⟩ ?_
  rintro av α ak ⟨O, e, aI, ap, aa⟩ bd ar
  obtain ⟨aw, ba, rfl, ac, aj⟩ := Zx aI
  obtain ⟨β, rfl⟩ := Zh ap
  clear ap
  replace ac : Zat x target O e = some ba := ac
  unfold Zat at ac
  refine sq_ fun aO => sq_ fun aP => g_' (q_ (i_ e) (q_ (i_ O) (q_ (.bool (decide (e < O))) (Za (aP _ _ ?_)))))
  refine wc_ (e < O) (fun ag => ?_) fun ag => ?_
  ·have aT := Ze ag ac
   refine Zf (aO _ _ (Zk (sq_ fun aQ => g_' (q_ (i_ e) (q_ (i_ O) ?_)))))
   obtain ⟨aE, aU⟩ := Zb aT
   refine w_' ((e + O)) (Zo aE) ?_
   obtain ⟨aF, aV⟩ := Zb aU
   refine s_w ((e + O)) (k := .u64) (x := (e + O)) (by kernel_rfl) (Zdr aF) ?_
   refine l_' (.int .u64 ((e + O) / 2)) (some (.int .u64 (Int.fdiv (e + O) 2))) (by rw [Int.fdiv_eq_ediv_of_nonneg _ (by decide)]) ?_
   obtain ⟨aG, aW⟩ := Zb aV
   refine w_' (((e + O) / 2)) (Zo aG) (q_ (i_ ((e + O) / 2)) (Za (aQ _ _ (sq_ fun aR => g_' (q_ (.func (.func 76) #[] #[]) (q_ (Y) (q_ (i_ ((e + O) / 2)) ?_)))))))
   obtain ⟨ae, aX⟩ := Zb aW
   have az := (ai.fr aa dn_)
   refine az.ix_ 69 ae.1 ae.2 (le_ 71 0 (.agg #[i_ ((gt x ((e + O) / 2)).1), .int .u64 ((gt x ((e + O) / 2)).2.1), i_ ((gt x ((e + O) / 2)).2.2)]) az ae.1 ae.2 (q_ (i_ target) ?_))
   obtain ⟨aB, aL, ax⟩ := bs_ aX
   refine ck_ (ZeJ aa.wf aL) ?_
   rintro _ bb ⟨rfl, am⟩
   refine q_ (.bool (decide (aB < 0))) (Za (aR _ _ ?_))
   refine wc_ (aB < 0) (fun ah => ?_) fun ah => ?_
   ·have aY := Ze ah ax
    refine g_' (q_ (i_ ((e + O) / 2)) ?_)
    obtain ⟨aH, aZ⟩ := Zb aY
    refine w_' ((((e + O) / 2) + 1)) (Zo (by have := aH; omega)) (q_ (i_ (((e + O) / 2) + 1)) (Za ?_))
    obtain rfl := oi_ aZ
    exact ar aw _ _ lt_ ⟨O, (((e + O) / 2) + 1), aj, ha_, (fs_ U (fs_ U (f0_ U) aa in_) am in_)⟩
   have a1 := Zi ah ax
   refine g_' (q_ (i_ ((e + O) / 2)) (q_ (i_ ((e + O) / 2)) (Za ?_)))
   obtain rfl := oi_ a1
   exact ar aw _ _ lt_ ⟨((e + O) / 2), e, aj, ha_, (fs_ U (fs_ U (f0_ U) aa in_) am in_)⟩
  have a2 := Zi ag ac
  refine ZL (Zj (Zj (ZV ?_)))
  obtain rfl := oi_ a2
  obtain rfl := ZG aj
  exact aN _ _ ⟨ha_, (fs_ U (f0_ U) aa in_)⟩
 obtain ⟨ao, ad⟩ := hM
 obtain ⟨β, rfl⟩ := Zh ao
 clear ao
 refine aS _ _ (sq_ fun au => g_' (q_ (i_ V) (q_ (i_ V) (q_ (i_ (x.length : Int)) ?_))))
 refine sb_ (V < (x.length : Int)) (fun ab => ?_) fun ab => ?_
 ·have a6 := Ze ab ay
  refine q_ (.bool true) (q_ (.func (.func 76) #[] #[]) (q_ (Y) (q_ (i_ V) ?_)))
  obtain ⟨an, a7⟩ := Zb a6
  have aA := (ai.fr ad dn_)
  refine aA.ix_ 69 an ab (le_ 71 0 (.agg #[i_ ((gt x V).1), .int .u64 ((gt x V).2.1), i_ ((gt x V).2.2)]) aA an ab (q_ (i_ target) ?_))
  obtain ⟨af, aM, a8⟩ := bs_ a7
  refine ck_ (ZeJ ad.wf aM) ?_
  rintro _ bc ⟨rfl, aC⟩
  refine q_ (.bool (decide (af = 0))) (q_ (.bool (decide (af = 0))) (q_ (i_ V) (q_ (.bool (decide (af = 0))) (Za (au _ _ ?_)))))
  refine Zg ?_
  refine br_ [i_ V, .bool (decide (af = 0))] ?_
  obtain rfl := oi_ a8
  exact ⟨rfl, (fs_ U (fs_ U (f0_ U) ad in_) aC in_)⟩
 have a_ := Zi ab ay
 refine q_ (.bool false) (n_' (n_' (n_' (n_' (n_' (n_' (n_' (n_' (q_ (.bool false) (q_ (i_ V) (q_ (.bool false) (Za (au _ _ ?_)))))))))))))
 refine Zg ?_
 refine br_ [i_ V, .bool false] ?_
 obtain rfl := oi_ a_
 exact ⟨rfl, (fs_ U (f0_ U) ad in_)⟩
theorem Zeb {H : AH} {O : Value} {ab : Fp} {l : List (Int × Int × Int)} {U : Int} {r : Int × Bool}
    (V : WF H) (ac : Sq Zc 3 H O l ab) (Y : ZbT l U = some r) :
    ACalls Try.prog 64 #[O, i_ U] H fun v H' => v = .tuple #[i_ r.1, .bool r.2] /\ FrS [] H H' := by
 refine ab_ Try.func64 ?_
 unfold ZbT at Y
 refine sq_ fun k1 => g_' (q_ (i_ 0) (q_ (.bool false) (Za (k1 _ _ (sq_ fun k2 => g_' (q_ (O) (q_ (i_ U) ?_)))))))
 obtain ⟨e, ad, ae⟩ := bs_ Y
 refine ck_ (Zex V ac ad) ?_
 rintro _ af ⟨rfl, aa⟩
 refine q_ (i_ e.1) (q_ (.bool e.2) (q_ (i_ e.1) (q_ (.bool e.2) (Za (k2 _ _ ?_)))))
 refine Zg ?_
 refine br_ [i_ e.1, .bool e.2] ?_
 obtain rfl := oi_ ae
 exact ⟨rfl, (fs_ V (f0_ V) aa in_)⟩
theorem Zdh {H : AH} {V : Nat} {U : Value} {ah : Fp} {Y : List (Bool × List (Int × Int × Int) × List (Int × Int × Int))} {aq : Int} {ar : Int} {u : Int} {w : Int} {r : Int × Bool}
    (aa : WF H) (ac : Nd Zc 3 H U Y ah []) (ak : Row H V [U, i_ aq, i_ ar]) (ao : Zar Y aq ar u w = some r) :
    ACalls Try.prog 49 #[pt_ V 0, i_ u, i_ w] H fun v H' => v = .tuple #[.int .u64 r.1, .bool r.2] /\ FrS [] H H' := by
 refine ab_ Try.func49 ?_
 unfold Zar at ao
 refine sq_ fun k1 => g_' (q_ (.int .u64 0) (q_ (.bool false) (Za (k1 _ _ (sq_ fun k2 => sq_ fun k3 => g_' (q_ (pt_ V 0) (q_ (i_ u) ?_)))))))
 obtain ⟨aw, aE, av⟩ := bs_ ao
 refine ck_ (ZY aa ac ak aE) ?_
 rintro _ _ ⟨rfl, rfl⟩
 refine q_ (.bool (!aw)) (Za (k3 _ _ ?_))
 refine wb_ ((!aw)) (fun aj => ?_) fun aj => ?_
 ·have aM := Ze aj av
  refine sq_ fun aF => g_' (q_ (.int .u64 0) (q_ (.bool false) (Za (aF _ _ ?_))))
  refine Zg (Zn ?_)
  refine br_ [.int .u64 0, .bool false] ?_
  obtain rfl := oi_ aM
  exact ⟨rfl, (f0_ aa)⟩
 have aN := ZK aj av
 refine Zf (k2 _ _ (sq_ fun aG => g_' (q_ (pt_ V 0) (q_ (pt_ V 0) (q_ (pt_ V 0) (lr_ 114 0 (U) ak (q_ (i_ u) ?_)))))))
 obtain ⟨O, aO⟩ := Zb aN
 refine ac.ix_ 114 O.1 O.2 (l_' (elp U 3 u.toNat 1) (ZA Try.prog 120 (elp U 3 u.toNat 0) 1) (Nd.fldq (d := 1) ac O.1 O.2 (by kernel_rfl)) ?_)
 obtain ⟨aS, aV, aB, az⟩ := Nd.at ac O.1 O.2
 have ap : KdS Zc 3 H aS ((gt Y u).2.1) ah U 3 u.toNat 1 := az false (by simp)
 obtain ⟨ax, aL, ay, rfl⟩ := ap.sq.form
 refine l_' (.slice ax aL ay) (aL_ 69 (elp U 3 u.toNat 1) H) (aB _ _ _ _ (by kernel_rfl)) (q_ (i_ w) ?_)
 obtain ⟨e, aD, au⟩ := bs_ aO
 refine ck_ (Zeb aa ap.sq aD) ?_
 rintro _ an ⟨rfl, ad⟩
 refine q_ (.tuple #[i_ e.1, .bool e.2]) (q_ (i_ e.1) (q_ (.bool e.2) (q_ (i_ e.1) (q_ (.bool e.2) (Za (aG _ _ (sq_ fun aH => sq_ fun aI => g_' (q_ (.bool e.2) (q_ (.bool (!e.2)) (Za (aI _ _ ?_)))))))))))
 refine wb_ ((!e.2)) (fun ai => ?_) fun ai => ?_
 ·have aP := Ze ai au
  refine sq_ fun aJ => g_' (q_ (.int .u64 0) (q_ (.bool false) (Za (aJ _ _ ?_))))
  refine Zg (Zn ?_)
  refine br_ [.int .u64 0, .bool false] ?_
  obtain rfl := oi_ aP
  exact ⟨rfl, (fs_ aa (f0_ aa) ad in_)⟩
 have aQ := ZK ai au
 refine Zf (aH _ _ (sq_ fun aK => g_' (q_ (pt_ V 0) (q_ (pt_ V 0) (q_ (pt_ V 0) ?_)))))
 have aT := (ak.frS ad dn_)
 refine lr_ 114 0 (U) aT (q_ (i_ u) ?_)
 have am := (ac.fr ad dn_)
 refine am.ix_ 114 O.1 O.2 (l_' (elp U 3 u.toNat 1) (ZA Try.prog 120 (elp U 3 u.toNat 0) 1) (Nd.fldq (d := 1) am O.1 O.2 (by kernel_rfl)) ?_)
 obtain ⟨aU, aW, aC, aA⟩ := Nd.at am O.1 O.2
 have ae : KdS Zc 3 an aU ((gt Y u).2.1) ah U 3 u.toNat 1 := aA false (by simp)
 obtain ⟨af, al, ag, rfl⟩ := ae.sq.form
 refine l_' (.slice af al ag) (aL_ 69 (elp U 3 u.toNat 1) an) (aC _ _ _ _ (by kernel_rfl)) (q_ (i_ e.1) ?_)
 obtain ⟨ab, aR⟩ := Zb aQ
 refine ae.sq.ix_ 69 ab.1 ab.2 (l_' (elp (.slice af al ag) 3 e.1.toNat 1) (ZA Try.prog 71 (elp (.slice af al ag) 3 e.1.toNat 0) 1) (Sq.fldq (d := 1) ae.sq ab.1 ab.2 (by kernel_rfl)) (le_ 27 1 (.int .u64 ((gt ((gt Y u).2.1) e.1).2.1)) ae.sq ab.1 ab.2 (q_ (.int .u64 ((gt ((gt Y u).2.1) e.1).2.1)) (q_ (.bool true) (Za (aK _ _ ?_))))))
 refine Zg ?_
 refine br_ [.int .u64 ((gt ((gt Y u).2.1) e.1).2.1), .bool true] ?_
 obtain rfl := oi_ aR
 exact ⟨rfl, (fs_ aa (f0_ aa) ad in_)⟩
theorem Zfj {H : AH} {V : Value} {ae : Fp} {l : List (Int × Int × Int)} {O : Int} {aa : Int} {Y : Int} {r : List (Int × Int × Int)}
    (ab : WF H) (an : Ow Zc 3 H V l ae) (aq : Zbo l O aa Y = some r) :
    ACalls Try.prog 50 #[V, .agg #[i_ O, .int .u64 aa, i_ Y]] H fun v H' => ∃ (au : Value) (am : Fp), v = au /\ FrS ae H H' /\ Ow Zc 3 H' au r am /\ Inn ae H am := by
 refine ab_ Try.func50 ?_
 unfold Zbo at aq
 refine sq_ fun aO => g_' ?_
 refine rl_ ab [i_ O, .int .u64 aa, i_ Y] fun ax a8 ac ba ak => ?_
 refine q_ (.slice none 0 0) (Za (aO _ _ (sq_ fun aI => g_' (q_ (V) (q_ (pt_ ax 0) (lr_ 3 0 (i_ O) ak ?_))))))
 have al := (an.ext ac)
 obtain ⟨e, aH, ar⟩ := bs_ aq
 refine ck_ (Zeb ac.wf al.sq aH) ?_
 rintro _ a1 ⟨rfl, U⟩
 refine q_ (.tuple #[i_ e.1, .bool e.2]) (q_ (i_ e.1) (q_ (.bool e.2) (q_ (i_ e.1) (q_ (.bool e.2) (Za (aI _ _ (sq_ fun aJ => sq_ fun aK => g_' (q_ (.bool e.2) (Za (aK _ _ ?_))))))))))
 refine wb_ (e.2) (fun ai => ?_) fun ai => ?_
 ·have aT := Ze ai ar
  refine sq_ fun aL => g_' (q_ (V) (q_ (i_ e.1) ?_))
  have aX := (ak.frS U dn_)
  refine lr_ 71 0 (.agg #[i_ O, .int .u64 aa, i_ Y]) aX ?_
  obtain ⟨af, aU⟩ := Zb aT
  have av := (al.fr U dn_)
  refine av.sq.ix_ 69 af.1 af.2 ?_
  obtain ⟨a2, aS, aA, aG⟩ := Ow.store (P := Try.prog) (t := 71) (off := 0) U.wf av af.1 af.2 (.agg #[i_ O, .int .u64 aa, i_ Y]) [i_ O, .int .u64 aa, i_ Y] (by kernel_rfl) (by kernel_rfl) rfl (O, aa, Y) (Nat.le_of_ble_eq_true rfl) (by kernel_rfl)
  refine ek_ aS (Za (aL _ _ (sq_ fun aM => g_' (q_ (V) (q_ (V) (Za (aM _ _ ?_)))))))
  refine Zg (Zn ?_)
  refine br_ [V] ?_
  obtain rfl := oi_ aU
  exact ⟨(V), ae, rfl, (fs_ ab (fs_ ab ((fr_ ab).extR ac) U in_) aA ir_), aG, ir_⟩
 have aV := ZK ai ar
 refine Zf (aJ _ _ (sq_ fun aN => g_' (q_ (V) (q_ (i_ e.1) ?_))))
 have aY := (ak.frS U dn_)
 refine lr_ 71 0 (.agg #[i_ O, .int .u64 aa, i_ Y]) aY ?_
 refine Zb9 (enc := Zc) (sz := 3) U.wf [(O, aa, Y)] 1 (by decide) (fun _ _ => rfl) (fun _ _ => rfl) rfl (by kernel_rfl) fun bb a_ a6 ad aE ao => ?_
 obtain ⟨aw, aP, ay, rfl⟩ := ao.form
 have aZ := ((al.fr U dn_).ext ad)
 obtain ⟨aD, aW⟩ := Zb aV
 have aQ := (t_ ac.n U.n)
 have az := (aE.djn (an.lt.le aQ))
 refine Zju 65 #[V, i_ e.1, .slice aw aP ay] (by kernel_rfl) (ZlE ad.wf aZ ao (Dj.symm az) aD) ?_
 rintro bc a7 ⟨aC, aB, ap, aF⟩
 obtain ⟨ag, aj, ah, rfl⟩ := ap.form
 refine q_ (.slice ag aj ah) (Za (aN _ _ ?_))
 refine Zg ?_
 refine br_ [.slice ag aj ah] ?_
 have aR := (t_ (t_ ac.n U.n) ad.n)
 obtain rfl := oi_ aW
 exact ⟨(.slice ag aj ah), aC, rfl, (fs_ ab ((fs_ ab ((fr_ ab).extR ac) U in_).extR ad) aB ir_), ap, (Inn.trans ir_ aR aF)⟩
end Go.Vd

/-! (KSb3) -/

set_option maxRecDepth 100000
set_option maxHeartbeats 4000000
set_option linter.unusedVariables false
namespace Go.Vd
open Go.Proofs
attribute [local irreducible] Zm Zp aWp
theorem Zfk {H : AH} {e : Nat} {O : Value} {ag : Fp} {U : List (Bool × List (Int × Int × Int) × List (Int × Int × Int))} {av : Int} {ao : Int} {u : Int} {w : Int} {Y : Int} {via : Int} {r : Bool × Er × List (Bool × List (Int × Int × Int) × List (Int × Int × Int)) × Int}
    (aa : WF H) (ae : Nd Zc 3 H O U ag []) (V : Row H e [O, i_ av, i_ ao]) (aw : Dj [e] ag) (bi : Zbi U av ao u w Y via = some r) :
    ACalls Try.prog 30 #[pt_ e 0, i_ u, i_ w, .int .u64 Y, i_ via] H fun v H' => ∃ (v3 : Value) (aF : Fp) (aG : Fp), v = .tuple #[.bool r.1, v3] /\ FrS ([e] ++ ag) H H' /\ Ev 90 129 H' v3 r.2.1 aF /\ Nd Zc 3 H' O r.2.2.1 aG [] /\ Row H' e [O, i_ av, i_ r.2.2.2] /\ Inn [] H aF /\ Inn ag H aG /\ Dj aF aG := by
 refine ab_ Try.func30 ?_
 unfold Zbi at bi
 refine sq_ fun cv => g_' (q_ (.bool false) (q_ (.nilIface) (Za (cv _ _ (sq_ fun cw => Zk (sq_ fun cx => g_' (q_ (pt_ e 0) (q_ (.bool false) (q_ (.bool false) (Za (cx _ _ ?_)))))))))))
 refine wb_ false (fun h => by cases h) fun _ => ?_
 refine sq_ fun cy => ?_
 obtain ⟨bv, ci, bx⟩ := bs_ bi
 refine ZC (fun α a1 => Has α [(0, pt_ e 0), (1, i_ u), (2, i_ w), (3, .int .u64 Y), (4, i_ via), (18, .bool bv)] /\ H = a1) (fun _ bp => ?_) (fun α a1 hM => ?_)
 ·refine g_' (q_ (pt_ e 0) (q_ (i_ u) ?_))
  obtain ⟨y24, cm, bz⟩ := bs_ ci
  refine ck_ (ZY aa ae V cm) ?_
  rintro _ _ ⟨rfl, rfl⟩
  by_cases ay : y24 = true
  ·have c3 := Ze ay bz
   rw [ay]
   refine q_ (.bool false) (q_ (.bool false) (q_ (pt_ e 0) (q_ (i_ w) ?_)))
   obtain ⟨aZ, cn, c4⟩ := bs_ c3
   refine ck_ (ZY aa ae V cn) ?_
   rintro _ _ ⟨rfl, rfl⟩
   refine q_ (.bool (!aZ)) (q_ (.bool (!aZ)) (q_ (.bool (!aZ)) (Za ?_)))
   obtain rfl := oi_ c4
   exact bp _ _ ⟨ha_, rfl⟩
  have c5 := Zi ay bz
  rw [nb ay]
  refine q_ (.bool true) (q_ (.bool true) (n_' (n_' (n_' (n_' (q_ (.bool true) (q_ (.bool true) (Za ?_))))))))
  obtain rfl := oi_ c5
  exact bp _ _ ⟨ha_, rfl⟩
 obtain ⟨bf, rfl⟩ := hM
 obtain ⟨β, rfl⟩ := Zh bf
 clear bf
 refine cy _ _ ?_
 refine wb_ (bv) (fun aI => ?_) fun aI => ?_
 ·have c6 := Ze aI bx
  refine sq_ fun cB => g_' (q_ (.iface 90 (i_ 7)) (q_ (.bool false) (q_ (.iface 90 (i_ 7)) (Za (cB _ _ ?_)))))
  refine Zg (Z5 (Zn ?_))
  refine br_ [.bool false, .iface 90 (i_ 7)] ?_
  obtain rfl := oi_ c6
  exact ⟨(.iface 90 (i_ 7)), [], ag, rfl, (fr_ aa), Ev.no, ae, V, in_, ir_, dn_⟩
 have bA := ZK aI bx
 refine sq_ fun cC => g_' (q_ (i_ u) (q_ (i_ w) (q_ (.bool (decide (u = w))) (q_ (.bool (decide (u = w))) (Za (cC _ _ ?_))))))
 refine wc_ (u = w) (fun aJ => ?_) fun aJ => ?_
 ·have c7 := Ze aJ bA
  refine sq_ fun cD => g_' (q_ (.iface 90 (i_ 1)) (q_ (.bool false) (q_ (.iface 90 (i_ 1)) (Za (cD _ _ ?_)))))
  refine Zg (Z5 (Zn ?_))
  refine br_ [.bool false, .iface 90 (i_ 1)] ?_
  obtain rfl := oi_ c7
  exact ⟨(.iface 90 (i_ 1)), [], ag, rfl, (fr_ aa), Ev.no, ae, V, in_, ir_, dn_⟩
 have bB := Zi aJ bA
 refine sq_ fun cE => g_' (q_ (.int .u64 Y) (q_ (.bool (decide (Y > 140737488355328))) (q_ (.bool (decide (Y > 140737488355328))) (Za (cE _ _ ?_)))))
 refine wc_ (Y > 140737488355328) (fun aK => ?_) fun aK => ?_
 ·have c8 := Ze aK bB
  refine sq_ fun cF => g_' (q_ (.iface 90 (i_ 8)) (q_ (.bool false) (q_ (.iface 90 (i_ 8)) (Za (cF _ _ ?_)))))
  refine Zg (Z5 (Zn ?_))
  refine br_ [.bool false, .iface 90 (i_ 8)] ?_
  obtain rfl := oi_ c8
  exact ⟨(.iface 90 (i_ 8)), [], ag, rfl, (fr_ aa), Ev.no, ae, V, in_, ir_, dn_⟩
 have c9 := Zi aK bB
 refine sq_ fun cG => ?_
 obtain ⟨bw, bk, bC⟩ := bs_ c9
 refine ZC (fun α a2 => Has α [(0, pt_ e 0), (1, i_ u), (2, i_ w), (3, .int .u64 Y), (4, i_ via), (39, .bool bw)] /\ H = a2) (fun _ aC => ?_) (fun α a2 hM => ?_)
 ·refine g_' (q_ (i_ via) ?_)
  refine sb_ (via < (-1)) (fun aL => ?_) fun aL => ?_
  ·have c_ := Ze aL bk
   refine q_ (.bool true) (n_' (n_' (n_' (n_' (n_' (n_' (n_' (q_ (.bool true) (q_ (.bool true) (n_' (n_' (n_' (n_' (n_' (n_' (n_' (n_' (n_' (n_' (n_' (n_' (n_' (q_ (.bool true) (q_ (.bool true) (Za ?_)))))))))))))))))))))))))
   obtain rfl := oi_ c_
   exact aC _ _ ⟨ha_, rfl⟩
  have bD := Zi aL bk
  refine q_ (.bool false) (q_ (i_ via) (q_ (pt_ e 0) (q_ (pt_ e 0) (q_ (pt_ e 0) (lr_ 114 0 (O) V (ae.ln_ 114 ?_))))))
  refine sb_ (via ≥ (U.length : Int)) (fun aM => ?_) fun aM => ?_
  ·have da := Ze aM bD
   refine q_ (.bool true) (q_ (.bool true) (n_' (n_' (n_' (n_' (n_' (n_' (n_' (n_' (n_' (n_' (n_' (n_' (n_' (q_ (.bool true) (q_ (.bool true) (Za ?_)))))))))))))))))
   obtain rfl := oi_ da
   exact aC _ _ ⟨ha_, rfl⟩
  have bE := Zi aM bD
  refine q_ (.bool false) (q_ (.bool false) (q_ (i_ via) ?_))
  refine sb_ (via ≥ 0) (fun aN => ?_) fun aN => ?_
  ·have db := Ze aN bE
   refine q_ (.bool true) (q_ (pt_ e 0) (q_ (pt_ e 0) (q_ (pt_ e 0) (lr_ 114 0 (O) V (q_ (i_ via) ?_)))))
   obtain ⟨al, dc⟩ := Zb db
   refine ae.ix_ 114 al.1 al.2 (l_' (elp O 3 via.toNat 0) (ZA Try.prog 120 (elp O 3 via.toNat 0) 0) (Nd.fldq (d := 0) ae al.1 al.2 (by kernel_rfl)) ?_)
   obtain ⟨dM, dN, ca, dF⟩ := Nd.at ae al.1 al.2
   refine l_' (.bool ((gt U via).1)) (aL_ 4 (elp O 3 via.toNat 0) H) (ca _ _ _ _ (by kernel_rfl)) (q_ (.bool (!(gt U via).1)) (q_ (.bool (!(gt U via).1)) (q_ (.bool (!(gt U via).1)) (q_ (.bool (!(gt U via).1)) (Za ?_)))))
   obtain rfl := oi_ dc
   exact aC _ _ ⟨ha_, rfl⟩
  have dd := Zi aN bE
  refine q_ (.bool false) (n_' (n_' (n_' (n_' (n_' (n_' (n_' (n_' (n_' (q_ (.bool false) (q_ (.bool false) (q_ (.bool false) (Za ?_)))))))))))))
  obtain rfl := oi_ dd
  exact aC _ _ ⟨ha_, rfl⟩
 obtain ⟨bg, rfl⟩ := hM
 obtain ⟨β, rfl⟩ := Zh bg
 clear bg
 refine cG _ _ ?_
 refine wb_ (bw) (fun aO => ?_) fun aO => ?_
 ·have de := Ze aO bC
  refine sq_ fun cH => g_' (q_ (.iface 90 (i_ 1)) (q_ (.bool false) (q_ (.iface 90 (i_ 1)) (Za (cH _ _ ?_)))))
  refine Zg (Z5 (Zn ?_))
  refine br_ [.bool false, .iface 90 (i_ 1)] ?_
  obtain rfl := oi_ de
  exact ⟨(.iface 90 (i_ 1)), [], ag, rfl, (fr_ aa), Ev.no, ae, V, in_, ir_, dn_⟩
 have df := ZK aO bC
 refine Zf (cw _ _ (sq_ fun cI => g_' (q_ (pt_ e 0) (q_ (i_ u) (q_ (i_ w) ?_)))))
 obtain ⟨af, co, dg⟩ := bs_ df
 refine ck_ (Zdh aa ae V co) ?_
 rintro _ a6 ⟨rfl, ad⟩
 refine q_ (.tuple #[.int .u64 af.1, .bool af.2]) (q_ (.int .u64 af.1) (q_ (.bool af.2) (q_ (.int .u64 af.1) (q_ (.bool af.2) (Za (cI _ _ (sq_ fun cJ => sq_ fun cK => ?_)))))))
 obtain ⟨an, bl, bF⟩ := bs_ dg
 refine ZC (fun α a7 => Has α [(0, pt_ e 0), (1, i_ u), (2, i_ w), (3, .int .u64 Y), (4, i_ via), (13, .bool an.1), (79, .bool an.2)] /\ a6 = a7) (fun _ bq => ?_) (fun α a7 hM => ?_)
 ·refine g_' (q_ (.bool af.2) (q_ (.bool af.2) ?_))
  by_cases az : af.2 = true
  ·have dh := Ze az bl
   rw [az]
   refine q_ (.int .u64 af.1) (q_ (.int .u64 Y) (q_ (.bool (decide (af.1 ≤ Y))) (q_ (.bool (decide (af.1 ≤ Y))) (Za ?_))))
   obtain rfl := oi_ dh
   exact bq _ _ ⟨ha_, rfl⟩
  have di := Zi az bl
  rw [nb az]
  refine n_' (n_' (n_' (q_ (.bool false) (Za ?_))))
  obtain rfl := oi_ di
  exact bq _ _ ⟨ha_, rfl⟩
 obtain ⟨bh, rfl⟩ := hM
 obtain ⟨β, rfl⟩ := Zh bh
 clear bh
 refine cK _ _ ?_
 refine wb_ (an.2) (fun aP => ?_) fun aP => ?_
 ·have dk := Ze aP bF
  refine sq_ fun cp => g_' (q_ (.bool false) (q_ (.nilIface) (Za (cp _ _ ?_))))
  refine Zg (Zn ?_)
  refine br_ [.bool false, .nilIface] ?_
  have dm := (ae.fr ad dn_)
  have dn := (V.frS ad dn_)
  obtain rfl := oi_ dk
  exact ⟨(.nilIface), [], ag, rfl, (fs_ aa (fr_ aa) ad in_), Ev.nil, dm, dn, in_, ir_, dn_⟩
 have cR := ZK aP bF
 refine Zf (cJ _ _ (sq_ fun cq => sq_ fun cr => g_' (q_ (.bool an.1) (q_ (.bool (!an.1)) (Za (cr _ _ ?_))))))
 obtain ⟨cN, bj, cS⟩ := bs_ cR
 refine ZC (fun α ah => Has α [(0, pt_ e 0), (1, i_ u), (2, i_ w), (3, .int .u64 Y), (4, i_ via)] /\ FrS [e] a6 ah /\ Row ah e [O, i_ av, i_ cN]) (fun _ bo => ?_) (fun α ah hM => ?_)
 ·refine wb_ ((!an.1)) (fun aH => ?_) fun aH => ?_
  ·have cT := Ze aH bj
   refine g_' (q_ (pt_ e 0) (q_ (pt_ e 0) (q_ (pt_ e 2) ?_)))
   have bG := (V.frS ad dn_)
   refine lr_ 3 2 (i_ ao) bG ?_
   obtain ⟨bZ, cU⟩ := Zb cT
   refine w_' ((ao + 1)) (Zo bZ) (q_ (pt_ e 0) (q_ (pt_ e 2) ?_))
   obtain ⟨dw, cO, bW, cV⟩ := rb_ 3 2 ad.wf bG (i_ (ao + 1)) [O, i_ av, i_ (ao + 1)]
   refine ek_ cO (Za ?_)
   obtain rfl := oi_ cU
   exact bo _ _ ⟨ha_, (fs_ ad.wf (fr_ ad.wf) bW ir_), cV⟩
  have cW := ZK aH bj
  refine Zf ?_
  have dp := (V.frS ad dn_)
  obtain rfl := oi_ cW
  exact bo _ _ ⟨ha_, (fr_ ad.wf), dp⟩
 obtain ⟨be, aq, aR⟩ := hM
 obtain ⟨β, rfl⟩ := Zh be
 clear be
 refine cq _ _ (sq_ fun cu => ?_)
 refine ZW [0, 1, 2, 3, 4, 5, 6, 7, 8, 9, 10, 11, 12, 13, 14, 15, 16, 17, 18, 19, 20] (by kernel_rfl) ?_
 refine e_' (pt_ e 0) (e_' (pt_ e 0) (e_' (pt_ e 0) ?_))
 refine Zdf (O) (x := aL_ 114 (pt_ e 0) ah) (by kernel_rfl) (aR.l_) ?_
 refine e_' (i_ u) (e_' (pt_ e 0) (e_' (pt_ e 0) (e_' (pt_ e 0) (mr_ 114 0 (O) aR (e_' (i_ u) ?_)))))
 obtain ⟨ab, cX⟩ := Zb cS
 have aD := ((ae.fr ad dn_).fr aq aw)
 refine aD.mx_ 114 ab.1 ab.2 (m_' (elp O 3 u.toNat 1) (ZA Try.prog 120 (elp O 3 u.toNat 0) 1) (Nd.fldq (d := 1) aD ab.1 ab.2 (by kernel_rfl)) ?_)
 obtain ⟨dq, dK, b9, b7⟩ := Nd.at aD ab.1 ab.2
 have br : KdS Zc 3 ah dq ((gt U u).2.1) ag O 3 u.toNat 1 := b7 false (by simp)
 obtain ⟨bM, cL, bO, rfl⟩ := br.sq.form
 refine m_' (.slice bM cL bO) (aL_ 69 (elp O 3 u.toNat 1) ah) (b9 _ _ _ _ (by kernel_rfl)) (e_' (i_ w) (e_' (.int .u64 Y) (e_' (i_ via) (e_' (.agg #[i_ w, .int .u64 Y, i_ via]) ?_))))
 obtain ⟨bX, dB, aA, cc, a8, ce, cf⟩ := Nd.borrow false aD ab.1 ab.2 (by simp) br rfl
 have aV := Inn.sub' (H := ah) ce
 have aW := Inn.sub' (H := ah) cf
 have aA : Nd Zc 3 ah O U bX [(u.toNat, false)] := aA
 obtain ⟨ap, cj, cY⟩ := bs_ cX
 refine dk_ (Zfj aq.wf cc cj) ?_
 rintro dI bJ ⟨_, dC, rfl, ak, bt, bm⟩
 obtain ⟨dx, dG, dz, rfl⟩ := bt.form
 have ai := (t_ ad.n aq.n)
 have bQ := (aW.dj (Dj.symm aw) (V.ltF.le ai))
 have bH := (aR.frS ak bQ)
 refine ⟨ZbX (y := aL_ 114 (pt_ e 0) bJ) (by kernel_rfl) (bH.l_) (ZS), ?_⟩
 have aS := (aA.fr ak (Dj.symm a8))
 refine aS.mx_ 114 ab.1 ab.2 (m_' (elp O 3 u.toNat 1) (ZA Try.prog 120 (elp O 3 u.toNat 0) 1) (Nd.fldq (d := 1) aS ab.1 ab.2 (by kernel_rfl)) ?_)
 have bR := (bm.dj (Dj.symm a8) aA.lt)
 obtain ⟨aj, bc, cP, ax, am, b5⟩ := Nd.close (P := Try.prog) (t := 69) false ak.wf aS bt (Dj.symm bR) ab.1 ab.2 (by kernel_rfl) (by kernel_rfl) (by kernel_rfl)
 have am : Nd Zc 3 aj O (U.set u.toNat ((gt U u).1, ap, (gt U u).2.2)) bc [] := am
 have aE := b5.grow3 (Inn.trans ir_ (Nat.le_refl _) aV) (Inn.trans (Inn.trans ir_ (Nat.le_refl _) aW) (Nat.le_refl _) bm) ak.n
 refine fk_ cP (ZaH (by kernel_rfl) (ZS)) ?_
 refine ZR ?_
 refine cu _ _ (sq_ fun cz => ?_)
 refine ZW [0, 1, 2, 3, 4, 5, 6, 7, 8, 9, 10, 11, 12, 13, 14, 15, 16, 17, 18, 19, 20] (by kernel_rfl) ?_
 refine e_' (pt_ e 0) (e_' (pt_ e 0) (e_' (pt_ e 0) ?_))
 have bS := (aV.dj (Dj.symm aw) (V.ltF.le ai))
 have aT := (bH.frS ax bS)
 refine Zdf (O) (x := aL_ 114 (pt_ e 0) aj) (by kernel_rfl) (aT.l_) ?_
 refine e_' (i_ w) (e_' (pt_ e 0) (e_' (pt_ e 0) (e_' (pt_ e 0) (mr_ 114 0 (O) aT (e_' (i_ w) ?_)))))
 obtain ⟨ac, cZ⟩ := Zb cY
 refine am.mx_ 114 ac.1 ac.2 (m_' (elp O 3 w.toNat 2) (ZA Try.prog 120 (elp O 3 w.toNat 0) 2) (Nd.fldq (d := 2) am ac.1 ac.2 (by kernel_rfl)) ?_)
 obtain ⟨dL, dr, b_, b8⟩ := Nd.at am ac.1 ac.2
 have bs : KdS Zc 3 aj dr ((gt (U.set u.toNat ((gt U u).1, ap, (gt U u).2.2)) w).2.2) bc O 3 w.toNat 2 := b8 true (by simp)
 obtain ⟨bN, cM, bP, rfl⟩ := bs.sq.form
 refine m_' (.slice bN cM bP) (aL_ 69 (elp O 3 w.toNat 2) aj) (b_ _ _ _ _ (by kernel_rfl)) (e_' (i_ u) (e_' (.int .u64 Y) (e_' (i_ via) (e_' (.agg #[i_ u, .int .u64 Y, i_ via]) ?_))))
 obtain ⟨bY, dD, aB, cd, a_, cg, ch⟩ := Nd.borrow true am ac.1 ac.2 (by simp) bs rfl
 have aX := Inn.sub' (H := aj) cg
 have aY := Inn.sub' (H := aj) ch
 have aB : Nd Zc 3 aj O (U.set u.toNat ((gt U u).1, ap, (gt U u).2.2)) bY [(w.toNat, true)] := aB
 obtain ⟨dv, ck, c0⟩ := bs_ cZ
 refine dk_ (Zfj ax.wf cd ck) ?_
 rintro dJ bK ⟨_, dE, rfl, ar, bu, bn⟩
 obtain ⟨dy, dH, dA, rfl⟩ := bu.form
 have ba := (aE.dj (Dj.symm aw) (V.ltF.le ai))
 have au := (t_ (t_ (t_ ad.n aq.n) ak.n) ax.n)
 have bT := (aY.dj ba (V.ltF.le au))
 have bI := (aT.frS ar bT)
 refine ⟨ZbX (y := aL_ 114 (pt_ e 0) bK) (by kernel_rfl) (bI.l_) (ZS), ?_⟩
 have aU := (aB.fr ar (Dj.symm a_))
 refine aU.mx_ 114 ac.1 ac.2 (m_' (elp O 3 w.toNat 2) (ZA Try.prog 120 (elp O 3 w.toNat 0) 2) (Nd.fldq (d := 2) aU ac.1 ac.2 (by kernel_rfl)) ?_)
 have bU := (bn.dj (Dj.symm a_) aB.lt)
 obtain ⟨bL, bd, cQ, bb, aQ, b6⟩ := Nd.close (P := Try.prog) (t := 69) true ar.wf aU bu (Dj.symm bU) ac.1 ac.2 (by kernel_rfl) (by kernel_rfl) (by kernel_rfl)
 have aQ : Nd Zc 3 bL O ((U.set u.toNat ((gt U u).1, ap, (gt U u).2.2)).set w.toNat ((gt (U.set u.toNat ((gt U u).1, ap, (gt U u).2.2)) w).1, (gt (U.set u.toNat ((gt U u).1, ap, (gt U u).2.2)) w).2.1, dv)) bd [] := aQ
 have du := b6.grow3 (Inn.trans ir_ (Nat.le_refl _) aX) (Inn.trans (Inn.trans ir_ (Nat.le_refl _) aY) (Nat.le_refl _) bn) ar.n
 refine fk_ cQ (ZaH (by kernel_rfl) (ZS)) ?_
 refine ZR ?_
 refine cz _ _ (sq_ fun cA => g_' (q_ (.bool true) (q_ (.nilIface) (Za (cA _ _ ?_)))))
 refine Zg ?_
 refine br_ [.bool true, .nilIface] ?_
 have bV := (aX.dj ba (V.ltF.le au))
 have dt := (bI.frS bb bV)
 obtain rfl := oi_ c0
 exact ⟨(.nilIface), [], bd, rfl, (fs_ aa (fs_ aa (fs_ aa (fs_ aa (fs_ aa (fs_ aa (fr_ aa) ad in_) aq Inn.left) ak (Inn.trans (Inn.right ir_) ai aW)) ax (Inn.trans (Inn.right ir_) ai aV)) ar (Inn.trans (Inn.trans (Inn.right ir_) ai aE) au aY)) bb (Inn.trans (Inn.trans (Inn.right ir_) ai aE) au aX)), Ev.nil, aQ, dt, in_, (Inn.trans (Inn.trans ir_ ai aE) au du), dn_⟩
theorem Zco {H : AH} {V : Value} {ak : Fp} {ac : Value} {al : Fp} {O : List (Bool)} {Arcs : List (Int × Int × Int × Int)} {e : Int} {r : Bool}
    (aa : WF H) (ah : Sq Zc2 1 H V O ak) (am : Sq Zr 4 H ac Arcs al) (ad : Z6 O Arcs e = some r) :
    ACalls Try.prog 12 #[.agg #[V, ac], i_ e] H fun v H' => v = .bool r /\ FrS [] H H' := by
 refine ab_ Try.func12 ?_
 unfold Z6 at ad
 refine sq_ fun k1 => g_' ?_
 refine ZbJ aa [V, ac] (Zy (ah.one1) (Zy (am.one1) (Zau))) (by kernel_rfl) fun b2 ar Y au aj => ?_
 refine q_ (.bool false) (Za (k1 _ _ (sq_ fun ae => g_' (q_ (i_ e) ?_))))
 refine sb_ (e ≥ 0) (fun ab => ?_) fun ab => ?_
 ·have ai := Ze ab ad
  refine q_ (.bool true) (q_ (i_ e) (q_ (pt_ b2 0) (lr_ 30 0 (V) aj ?_)))
  have af := (ah.ext Y)
  refine af.ln_ 30 ?_
  refine sb_ (e < (O.length : Int)) (fun U => ?_) fun U => ?_
  ·have an := Ze U ai
   refine q_ (.bool true) (q_ (.bool true) (q_ (pt_ b2 0) (lr_ 30 0 (V) aj (q_ (i_ e) ?_))))
   obtain ⟨ag, ao⟩ := Zb an
   refine af.ix_ 30 ag U (le_ 4 0 (.bool (gt O e)) af ag U (q_ (.bool (gt O e)) (q_ (.bool (gt O e)) (Za (ae _ _ ?_)))))
   refine Zg ?_
   refine br_ [.bool (gt O e)] ?_
   obtain rfl := oi_ ao
   exact ⟨rfl, ((f0_ aa).extR Y)⟩
  have ap := Zi U ai
  refine q_ (.bool false) (q_ (.bool false) (n_' (n_' (n_' (n_' (n_' (q_ (.bool false) (q_ (.bool false) (Za (ae _ _ ?_))))))))))
  refine Zg ?_
  refine br_ [.bool false] ?_
  obtain rfl := oi_ ap
  exact ⟨rfl, ((f0_ aa).extR Y)⟩
 have aq := Zi ab ad
 refine q_ (.bool false) (n_' (n_' (n_' (n_' (n_' (q_ (.bool false) (q_ (.bool false) (n_' (n_' (n_' (n_' (n_' (q_ (.bool false) (q_ (.bool false) (Za (ae _ _ ?_))))))))))))))))
 refine Zg ?_
 refine br_ [.bool false] ?_
 obtain rfl := oi_ aq
 exact ⟨rfl, ((f0_ aa).extR Y)⟩
theorem Zfq {H : AH} {ab : Value} {bg : Fp} {af : Value} {bh : Fp} {Y : List (Bool)} {Arcs : List (Int × Int × Int × Int)} {u : Int} {w : Int} {ac : Int} {via : Int} {r : Int}
    (e : WF H) (ay : Sq Zc2 1 H ab Y bg) (aG : Sq Zr 4 H af Arcs bh) (aJ : Zbs Y Arcs u w ac via = some r) :
    ACalls Try.prog 31 #[.agg #[ab, af], i_ u, i_ w, .int .u64 ac, i_ via] H fun v H' => v = .agg #[i_ r, .slice none 0 0] /\ FrS [] H H' := by
 refine ab_ Try.func31 ?_
 unfold Zbs at aJ
 refine sq_ fun k1 => g_' ?_
 refine ZbJ e [ab, af] (Zy (ay.one1) (Zy (aG.one1) (Zau))) (by kernel_rfl) fun b2 ci V co aS => ?_
 refine rk_ V.wf [i_ 0, .slice none 0 0] fun aa a_ U ae ag => ?_
 refine Za (k1 _ _ (sq_ fun br => Zk (sq_ fun bs => ?_)))
 obtain ⟨aM, bi, aP⟩ := bs_ aJ
 refine ZC (fun α ak => Has α [(1, i_ u), (2, i_ w), (3, .int .u64 ac), (4, i_ via), (5, pt_ b2 0), (10, pt_ aa 0), (11, .bool aM)] /\ FrS [] a_ ak) (fun _ aL => ?_) (fun α ak hM => ?_)
 ·refine g_' ?_
  have aX := (aS.ext U)
  refine lr_ 33 0 (.agg #[ab, af]) aX (q_ (i_ u) ?_)
  have aY := ((ay.ext V).ext U)
  have aZ := ((aG.ext V).ext U)
  obtain ⟨cf, bk, aQ⟩ := bs_ bi
  refine ck_ (Zco U.wf aY aZ bk) ?_
  rintro _ ch ⟨rfl, ad⟩
  by_cases ai : cf = true
  ·have bO := Ze ai aQ
   rw [ai]
   refine q_ (.bool false) (q_ (.bool false) ?_)
   have b9 := (aX.frS ad dn_)
   refine lr_ 33 0 (.agg #[ab, af]) b9 (q_ (i_ w) ?_)
   have b_ := (aY.fr ad dn_)
   have ca := (aZ.fr ad dn_)
   obtain ⟨aB, bl, bP⟩ := bs_ bO
   refine ck_ (Zco ad.wf b_ ca bl) ?_
   rintro _ cj ⟨rfl, bc⟩
   refine q_ (.bool (!aB)) (q_ (.bool (!aB)) (q_ (.bool (!aB)) (Za ?_)))
   obtain rfl := oi_ bP
   exact aL _ _ ⟨ha_, (fs_ U.wf (fs_ U.wf (fr_ U.wf) ad in_) bc in_)⟩
  have bQ := Zi ai aQ
  rw [nb ai]
  refine q_ (.bool true) (q_ (.bool true) (n_' (n_' (n_' (n_' (q_ (.bool true) (q_ (.bool true) (Za ?_))))))))
  obtain rfl := oi_ bQ
  exact aL _ _ ⟨ha_, (fs_ U.wf (fr_ U.wf) ad in_)⟩
 obtain ⟨aH, O⟩ := hM
 obtain ⟨β, rfl⟩ := Zh aH
 clear aH
 refine bs _ _ ?_
 refine wb_ (aM) (fun ar => ?_) fun ar => ?_
 ·have bR := Ze ar aP
  refine sq_ fun bt => g_' ?_
  obtain ⟨aC, bm, bS⟩ := bs_ bR
  refine ck_ (Za8 O.wf bm) ?_
  rintro _ ck ⟨rfl, am⟩
  have cc := ((ag.frS O dn_).frS am dn_)
  obtain ⟨a6, bC, bd, bT⟩ := ra_ 79 0 am.wf cc [i_ aC, .slice none 0 0] [i_ aC, .slice none 0 0]
  refine ek_ bC (Za (bt _ _ ?_))
  refine Zg (Z5 (Zn ?_))
  refine Zan (vs := [.agg #[i_ aC, .slice none 0 0]]) (ZQ (Eq.trans (b := aL_ 79 (pt_ aa 0) a6) (by kernel_rfl) (bT.l_)) (rfl)) ?_
  obtain rfl := oi_ bS
  exact ⟨rfl, (fs_ e (fs_ e (fs_ e (((f0_ e).extR V).extR U) O in_) am in_) bd (ae.fresh V.n))⟩
 have aR := ZK ar aP
 refine sq_ fun bu => g_' (q_ (i_ u) (q_ (i_ w) (q_ (.bool (decide (u = w))) (q_ (.bool (decide (u = w))) (Za (bu _ _ ?_))))))
 refine wc_ (u = w) (fun au => ?_) fun au => ?_
 ·have bU := Ze au aR
  refine sq_ fun bv => g_' ?_
  obtain ⟨aD, bn, bV⟩ := bs_ bU
  refine ck_ (Za8 O.wf bn) ?_
  rintro _ cm ⟨rfl, an⟩
  have cd := ((ag.frS O dn_).frS an dn_)
  obtain ⟨a7, bD, be, bW⟩ := ra_ 79 0 an.wf cd [i_ aD, .slice none 0 0] [i_ aD, .slice none 0 0]
  refine ek_ bD (Za (bv _ _ ?_))
  refine Zg (Z5 (Zn ?_))
  refine Zan (vs := [.agg #[i_ aD, .slice none 0 0]]) (ZQ (Eq.trans (b := aL_ 79 (pt_ aa 0) a7) (by kernel_rfl) (bW.l_)) (rfl)) ?_
  obtain rfl := oi_ bV
  exact ⟨rfl, (fs_ e (fs_ e (fs_ e (((f0_ e).extR V).extR U) O in_) an in_) be (ae.fresh V.n))⟩
 have aT := Zi au aR
 refine sq_ fun bw => g_' (q_ (.int .u64 ac) (q_ (.bool (decide (ac > 140737488355328))) (q_ (.bool (decide (ac > 140737488355328))) (Za (bw _ _ ?_)))))
 refine wc_ (ac > 140737488355328) (fun av => ?_) fun av => ?_
 ·have bX := Ze av aT
  refine sq_ fun bx => g_' ?_
  obtain ⟨aE, bo, bY⟩ := bs_ bX
  refine ck_ (Za8 O.wf bo) ?_
  rintro _ cn ⟨rfl, ao⟩
  have ce := ((ag.frS O dn_).frS ao dn_)
  obtain ⟨a8, bE, bf, bZ⟩ := ra_ 79 0 ao.wf ce [i_ aE, .slice none 0 0] [i_ aE, .slice none 0 0]
  refine ek_ bE (Za (bx _ _ ?_))
  refine Zg (Z5 (Zn ?_))
  refine Zan (vs := [.agg #[i_ aE, .slice none 0 0]]) (ZQ (Eq.trans (b := aL_ 79 (pt_ aa 0) a8) (by kernel_rfl) (bZ.l_)) (rfl)) ?_
  obtain rfl := oi_ bY
  exact ⟨rfl, (fs_ e (fs_ e (fs_ e (((f0_ e).extR V).extR U) O in_) ao in_) bf (ae.fresh V.n))⟩
 have b5 := Zi av aT
 refine sq_ fun bz => ?_
 obtain ⟨aN, aK, aU⟩ := bs_ b5
 refine ZC (fun α aF => Has α [(10, pt_ aa 0), (32, .bool aN)] /\ ak = aF) (fun _ aj => ?_) (fun α aF hM => ?_)
 ·refine g_' (q_ (i_ via) ?_)
  refine Zjp (via = (-1)) (by kernel_rfl) (fun aw => ?_) (fun aw => ?_)
  ·have b6 := Ze aw aK
   refine q_ (.bool false) (n_' (n_' (n_' (n_' (n_' (n_' (n_' (n_' (n_' (n_' (n_' (n_' (n_' (n_' (n_' (n_' (q_ (.bool false) (q_ (.bool false) (Za ?_)))))))))))))))))))
   obtain rfl := oi_ b6
   exact aj _ _ ⟨ha_, rfl⟩
  have aV := Zi aw aK
  refine q_ (.bool true) (q_ (i_ via) ?_)
  refine sb_ (via < 0) (fun ax => ?_) fun ax => ?_
  ·have bF := Ze ax aV
   refine q_ (.bool true) (n_' (n_' (n_' (n_' (n_' (q_ (.bool true) (q_ (.bool true) (n_' (n_' (n_' (n_' (n_' (q_ (.bool true) (q_ (.bool true) (q_ (.bool true) (Za ?_))))))))))))))))
   obtain rfl := oi_ bF
   exact aj _ _ ⟨ha_, rfl⟩
  have aO := Zi ax aV
  refine q_ (.bool false) (q_ (i_ via) (q_ (pt_ b2 0) ?_))
  have aW := ((aS.ext U).frS O dn_)
  refine lr_ 30 0 (ab) aW ?_
  have az := (((ay.ext V).ext U).fr O dn_)
  refine az.ln_ 30 ?_
  refine sb_ (via ≥ (Y.length : Int)) (fun ap => ?_) fun ap => ?_
  ·have bG := Ze ap aO
   refine q_ (.bool true) (q_ (.bool true) (n_' (n_' (n_' (n_' (n_' (q_ (.bool true) (q_ (.bool true) (q_ (.bool true) (Za ?_))))))))))
   obtain rfl := oi_ bG
   exact aj _ _ ⟨ha_, rfl⟩
  have bH := Zi ap aO
  refine q_ (.bool false) (q_ (.bool false) (q_ (pt_ b2 0) (lr_ 30 0 (ab) aW (q_ (i_ via) ?_))))
  obtain ⟨ah, bI⟩ := Zb bH
  refine az.ix_ 30 ah.1 ah.2 (le_ 4 0 (.bool (gt Y via)) az ah.1 ah.2 (q_ (.bool (gt Y via)) (q_ (.bool (gt Y via)) (q_ (.bool (gt Y via)) (Za ?_)))))
  obtain rfl := oi_ bI
  exact aj _ _ ⟨ha_, rfl⟩
 obtain ⟨aI, rfl⟩ := hM
 obtain ⟨β, rfl⟩ := Zh aI
 clear aI
 refine bz _ _ ?_
 refine wb_ (aN) (fun aq => ?_) fun aq => ?_
 ·have bJ := Ze aq aU
  refine sq_ fun bp => g_' ?_
  obtain ⟨aA, bj, bK⟩ := bs_ bJ
  refine ck_ (Za8 O.wf bj) ?_
  rintro _ cg ⟨rfl, al⟩
  have b7 := ((ag.frS O dn_).frS al dn_)
  obtain ⟨a1, bA, ba, bL⟩ := ra_ 79 0 al.wf b7 [i_ aA, .slice none 0 0] [i_ aA, .slice none 0 0]
  refine ek_ bA (Za (bp _ _ ?_))
  refine Zg (Z5 (Zn ?_))
  refine Zan (vs := [.agg #[i_ aA, .slice none 0 0]]) (ZQ (Eq.trans (b := aL_ 79 (pt_ aa 0) a1) (by kernel_rfl) (bL.l_)) (rfl)) ?_
  obtain rfl := oi_ bK
  exact ⟨rfl, (fs_ e (fs_ e (fs_ e (((f0_ e).extR V).extR U) O in_) al in_) ba (ae.fresh V.n))⟩
 have bM := ZK aq aU
 refine Zf (br _ _ (sq_ fun bq => g_' (q_ (.agg #[i_ 0, .slice none 0 0]) ?_)))
 have b8 := (ag.frS O dn_)
 obtain ⟨a2, bB, bb, bN⟩ := ra_ 79 0 O.wf b8 [i_ 0, .slice none 0 0] [i_ 0, .slice none 0 0]
 refine ek_ bB (Za (bq _ _ ?_))
 refine Zg ?_
 refine Zan (vs := [.agg #[i_ 0, .slice none 0 0]]) (ZQ (Eq.trans (b := aL_ 79 (pt_ aa 0) a2) (by kernel_rfl) (bN.l_)) (rfl)) ?_
 obtain rfl := oi_ bM
 exact ⟨rfl, (fs_ e (fs_ e (((f0_ e).extR V).extR U) O in_) bb (ae.fresh V.n))⟩
theorem Zgl {H : AH} {aM : Value} {cE : Fp} {ai : Value} {a_ : Fp} {bo : List (Bool)} {Arcs : List (Int × Int × Int × Int)} {ap : Int} {am : Int} {an : Int} {aF : Int} {r : List (Int × Int × Int × Int) × Bool}
    (aj : WF H) (aC : Sq Zc2 1 H aM bo cE) (aL : Sq Zr 4 H ai Arcs a_) (bN : Zb6 bo Arcs ap am an aF = some r) :
    ACalls Try.prog 33 #[.agg #[aM, ai], .agg #[i_ ap, i_ am, .int .u64 an, i_ aF]] H fun v H' => ∃ (b7 : Value) (bD : Fp), v = .tuple #[.agg #[aM, b7], .bool r.2] /\ FrS [] H H' /\ Sq Zr 4 H' b7 r.1 bD /\ Inn a_ H bD := by
 refine ab_ Try.func33 ?_
 unfold Zb6 at bN
 refine sq_ fun cZ => g_' ?_
 refine ZbJ aj [aM, ai] (Zy (aC.one1) (Zy (aL.one1) (Zau))) (by kernel_rfl) fun aU ee al ep bk => ?_
 refine rl_ al.wf [i_ ap, i_ am, .int .u64 an, i_ aF] fun aA d6 ag eq ay => ?_
 refine rk_ ag.wf [.slice none 0 0, .slice none 0 0] fun aG d_ V bd ao => ?_
 refine q_ (.bool false) (Za (cZ _ _ (sq_ fun cV => g_' (q_ (pt_ aU 0) ?_))))
 have ca := ((bk.ext ag).ext V)
 refine lr_ 30 0 (aM) ca ?_
 have cc := (((aC.ext al).ext ag).ext V)
 obtain ⟨ac, af, ad, rfl⟩ := cc.form
 refine q_ (.agg #[.slice ac af ad, .slice none 0 0]) ?_
 refine rk_ V.wf [.slice none 0 0, .slice none 0 0] fun ak ed Y ab az => ?_
 have cd := (cc.ext Y)
 obtain ⟨aQ, dv, O, dM⟩ := ra_ 33 0 Y.wf az [.slice ac af ad, .slice none 0 0] [.slice ac af ad, .slice none 0 0]
 refine ek_ dv (Za (cV _ _ (sq_ fun cW => g_' (q_ (.bool true) (Za (cW _ _ (sq_ fun cX => sq_ fun cY => g_' (q_ (pt_ aU 1) ?_))))))))
 have dk := (t_ ag.n V.n)
 have bx := (ab.djn (bk.ltF.le dk))
 have ce := ((ca.ext Y).frS O bx)
 refine lr_ 31 1 (ai) ce ?_
 have ax := (t_ (t_ al.n ag.n) V.n)
 have bz := (ab.djn (aL.lt.le ax))
 have cf := (((((aL.ext al).ext ag).ext V).ext Y).fr O bz)
 refine cf.ln_ 31 (q_ (i_ 0) (Za (cY _ _ ?_)))
 obtain ⟨cg, cM, b6⟩ := bs_ bN
 refine ZC (fun α aR => ∃ bj, cg = Sum.inr bj /\ ∃ (bl : Value) (a8 : Fp), Has α [(3, pt_ aA 0), (4, pt_ aG 0), (6, pt_ ak 0), (7, .bool true)] /\ FrS [ak] aQ aR /\ Ow Zr 4 aR bl bj a8 /\ Row aR ak [.slice ac af ad, bl] /\ Inn [] aQ a8) (fun _ c0 => ?_) (fun α aR hM => ?_)
 ·refine Zk ?_
  obtain ⟨bW, cK⟩ := Zv.1 cM
  refine ZJ (fun n α aS => ∃ (e : Int), ∃ (aE : List (Int × Int × Int × Int)), ∃ (bm : Value), ∃ (aJ : Fp), ZN (fun zz_ => Zbn Arcs ap am an zz_.1 zz_.2) n (e, aE) = some cg /\ Has α [(2, pt_ aU 0), (3, pt_ aA 0), (4, pt_ aG 0), (6, pt_ ak 0), (7, .bool true), (14, ai), (15, i_ (Arcs.length : Int)), (16, i_ e)] /\ FrS [ak] aQ aS /\ Ow Zr 4 aS bm aE aJ /\ Row aS ak [.slice ac af ad, bm] /\ Inn [] aQ aJ) bW ⟨0, [], (.slice none 0 0), [], cK, ha_, (fr_ O.wf), (Ow.nil (by decide)), dM, in_⟩ ?_
  rintro bW α aS ⟨e, aE, bm, aJ, cJ, bI, U, aD, bf, aP⟩ eg bR
  obtain ⟨bX, d5, rfl, aN, aX⟩ := Zx cJ
  obtain ⟨β, rfl⟩ := Zh bI
  clear bI
  replace aN : Zbn Arcs ap am an e aE = some d5 := aN
  unfold Zbn at aN
  obtain ⟨a1, bi, a2, rfl⟩ := aD.form
  refine sq_ fun c3 => g_' (q_ (.bool (decide (e < (Arcs.length : Int)))) (Za (c3 _ _ (sq_ fun c4 => ?_))))
  refine wc_ (e < (Arcs.length : Int)) (fun aK => ?_) fun aK => ?_
  ·have dN := Ze aK aN
   refine Zf (c4 _ _ (sq_ fun bS => Zk (sq_ fun c5 => g_' ?_)))
   obtain ⟨bE, dO⟩ := Zb dN
   have bn := (cf.fr U bz)
   refine bn.ix_ 31 bE aK (le_ 73 0 (.agg #[i_ ((gt Arcs e).1), i_ ((gt Arcs e).2.1), .int .u64 ((gt Arcs e).2.2.1), i_ ((gt Arcs e).2.2.2)]) bn bE aK ?_)
   refine rk_ U.wf [i_ 0, i_ 0, .int .u64 0, i_ 0] fun aV ef ae ah dw => ?_
   obtain ⟨ch, dm, aa, aZ⟩ := ra_ 73 0 ae.wf dw [i_ ((gt Arcs e).1), i_ ((gt Arcs e).2.1), .int .u64 ((gt Arcs e).2.2.1), i_ ((gt Arcs e).2.2.2)] [i_ ((gt Arcs e).1), i_ ((gt Arcs e).2.1), .int .u64 ((gt Arcs e).2.2.1), i_ ((gt Arcs e).2.2.2)]
   refine ek_ dm (Za (c5 _ _ (sq_ fun cO => sq_ fun cP => ?_)))
   obtain ⟨bY, bP, bZ⟩ := bs_ dO
   refine ZC (fun α bp => Has α [(2, pt_ aU 0), (3, pt_ aA 0), (4, pt_ aG 0), (6, pt_ ak 0), (7, .bool true), (9, pt_ aV 0), (14, ai), (15, i_ (Arcs.length : Int)), (16, i_ e), (31, .bool bY)] /\ ch = bp) (fun _ bQ => ?_) (fun α bp hM => ?_)
   ·refine g_' (q_ (pt_ aV 0) (lr_ 3 0 (i_ ((gt Arcs e).1)) aZ (q_ (pt_ aA 0) ?_)))
    have bq := (ab.djn (ay.ltF.le V.n))
    have c6 := (t_ (t_ (t_ V.n Y.n) O.n) U.n)
    have cn := (ah.djn (ay.ltF.le c6))
    have b8 := ((((((ay.ext V).ext Y).frS O bq).frS U bq).ext ae).frS aa cn)
    refine lr_ 3 0 (i_ ap) b8 ?_
    refine sb_ (((gt Arcs e).1) = ap) (fun ba => ?_) fun ba => ?_
    ·have dx := Ze ba bP
     refine q_ (.bool true) (q_ (pt_ aV 1) (lr_ 3 1 (i_ ((gt Arcs e).2.1)) aZ (q_ (pt_ aA 1) (lr_ 3 1 (i_ am) b8 (q_ (.bool (decide (((gt Arcs e).2.1) = am))) (q_ (.bool (decide (((gt Arcs e).2.1) = am))) (Za ?_)))))))
     obtain rfl := oi_ dx
     exact bQ _ _ ⟨ha_, rfl⟩
    have dy := Zi ba bP
    refine q_ (.bool false) (n_' (n_' (n_' (n_' (n_' (q_ (.bool false) (Za ?_)))))))
    obtain rfl := oi_ dy
    exact bQ _ _ ⟨ha_, rfl⟩
   obtain ⟨bG, rfl⟩ := hM
   obtain ⟨β, rfl⟩ := Zh bG
   clear bG
   refine cP _ _ ?_
   refine wb_ (bY) (fun bb => ?_) fun bb => ?_
   ·have b5 := Ze bb bZ
    refine sq_ fun cQ => sq_ fun cR => g_' (q_ (pt_ aV 2) (lr_ 27 2 (.int .u64 ((gt Arcs e).2.2.1)) aZ (q_ (pt_ aA 2) ?_)))
    have br := (ab.djn (ay.ltF.le V.n))
    have c7 := (t_ (t_ (t_ V.n Y.n) O.n) U.n)
    have co := (ah.djn (ay.ltF.le c7))
    have dP := ((((((ay.ext V).ext Y).frS O br).frS U br).ext ae).frS aa co)
    refine lr_ 27 2 (.int .u64 an) dP (q_ (.bool (decide (((gt Arcs e).2.2.1) ≤ an))) (Za (cR _ _ ?_)))
    refine wc_ (((gt Arcs e).2.2.1) ≤ an) (fun bc => ?_) fun bc => ?_
    ·have dz := Ze bc b5
     refine sq_ fun cS => g_' ?_
     have c8 := (t_ (t_ (t_ (t_ ag.n V.n) Y.n) O.n) U.n)
     have cp := (ah.djn (bk.ltF.le c8))
     have dQ := (((ce.frS U bx).ext ae).frS aa cp)
     refine lr_ 33 0 (.agg #[.slice ac af ad, ai]) dQ ?_
     have c9 := (t_ (t_ Y.n O.n) U.n)
     have cq := (ah.djn (ao.ltF.le c9))
     have dR := (((((ao.ext Y).frS O (ab.djn ao.ltF)).frS U (ab.djn ao.ltF)).ext ae).frS aa cq)
     have bg := (t_ (t_ (t_ (t_ (t_ al.n ag.n) V.n) Y.n) O.n) U.n)
     have cr := (ah.djn (aL.lt.le bg))
     have b9 := ((bn.ext ae).fr aa cr)
     have bs := (ab.djn (aC.lt.le ax))
     have cu := (ah.djn (aC.lt.le bg))
     have dS := ((((cd.fr O bs).fr U bs).ext ae).fr aa cu)
     obtain ⟨ci, dn, bA, dA⟩ := Row.store (P := Try.prog) (t := 33) (p := 0) aa.wf dR (.agg #[.slice ac af ad, ai]) [.slice ac af ad, ai] (by kernel_rfl) (by kernel_rfl) (Zy (dS.one1) (Zy (b9.one1) (Zau))) (Nat.le_of_ble_eq_true (by kernel_rfl)) [.slice ac af ad, ai] (by kernel_rfl)
     refine ek_ dn (q_ (.bool false) (Za (cS _ _ ?_)))
     refine Zg (Zn (Zn (Z5 (Zn (Zn (Z5 (Zn (Zn ?_))))))))
     obtain ⟨eB, bO, cN⟩ := map_some dz
     subst cN
     obtain rfl := ZG aX
     have cL := elim_inl b6
     rw [cL] at bO
     refine Zan (vs := [.agg #[.slice ac af ad, ai], .bool false]) (ZQ (Eq.trans (b := aL_ 33 (pt_ aG 0) ci) (by kernel_rfl) (dA.l_)) (rt_ (rfl))) ?_
     have bV := (t_ al.n ag.n)
     have cv := (bd.djn (aL.lt.le bV))
     have dT := (b9.fr bA cv)
     obtain rfl := oi_ bO
     exact ⟨(ai), a_, rfl, (fs_ aj (fs_ aj ((fs_ aj (fs_ aj (((((f0_ aj).extR al).extR ag).extR V).extR Y) O (ab.fresh ax)) U (ab.fresh ax)).extR ae) aa (ah.fresh bg)) bA (bd.fresh bV)), dT, ir_⟩
    have dB := Zi bc b5
    refine Zf (cQ _ _ ?_)
    refine ZL (Zj (ZV ?_))
    refine bS _ _ (g_' ?_)
    obtain ⟨cF, dC⟩ := Zb dB
    refine w_' ((e + 1)) (Zo (by have := cF; omega)) (q_ (i_ (e + 1)) (Za ?_))
    have dU := ((aD.ext ae).fr aa (ah.djn aD.lt))
    have c_ := (t_ O.n U.n)
    have cw := (ah.djn (az.ltF.le c_))
    have dV := ((bf.ext ae).frS aa cw)
    obtain rfl := oi_ dC
    exact bR bX _ _ lt_ ⟨(e + 1), aE, (.slice a1 bi a2), aJ, aX, ha_, (fs_ O.wf ((fs_ O.wf (fr_ O.wf) U ir_).extR ae) aa (ah.fresh U.n)), dU, dV, (aP.fresh (Nat.le_refl _))⟩
   have dD := ZK bb bZ
   refine Zf (cO _ _ (g_' (q_ (pt_ ak 1) ?_)))
   have da := (t_ O.n U.n)
   have cx := (ah.djn (az.ltF.le da))
   have b_ := ((bf.ext ae).frS aa cx)
   refine lr_ 31 1 (.slice a1 bi a2) b_ (lr_ 73 0 (.agg #[i_ ((gt Arcs e).1), i_ ((gt Arcs e).2.1), .int .u64 ((gt Arcs e).2.2.1), i_ ((gt Arcs e).2.2.2)]) aZ ?_)
   refine Zb9 (enc := Zr) (sz := 4) aa.wf [((gt Arcs e).1, (gt Arcs e).2.1, (gt Arcs e).2.2.1, (gt Arcs e).2.2.2)] 1 (by decide) (fun _ _ => rfl) (fun _ _ => rfl) rfl (by kernel_rfl) fun ew em d7 aB er bJ => ?_
   obtain ⟨eh, et, ek, rfl⟩ := bJ.form
   have dW := (((aD.ext ae).fr aa (ah.djn aD.lt)).ext aB)
   obtain ⟨cG, dE⟩ := Zb dD
   obtain ⟨ex, d8, cC, dp, a7, bK, bF⟩ := Ow.append (P := Try.prog) 32 aB.wf dW bJ.sq (fun _ _ => rfl) (at_ := #[31, 31]) rfl rfl (by kernel_rfl) (by kernel_rfl) (by decide) (by have := cG; first | omega | (simp only [List.length_cons, List.length_nil] at this ⊢; omega) | (simp at this ⊢; omega))
   obtain ⟨aT, aY, aW, rfl⟩ := bK.form
   refine ZaY (.slice aT aY aW) (by kernel_rfl) (dp) ?_
   refine q_ (pt_ ak 1) ?_
   have bt := (aP.djn (az.ltF.le O.n))
   have dX := ((b_.ext aB).frS a7 bt)
   obtain ⟨d9, dq, bB, dF⟩ := rb_ 31 1 a7.wf dX (.slice aT aY aW) [.slice ac af ad, .slice aT aY aW]
   refine ek_ dq (Za (bS _ _ (g_' ?_)))
   obtain ⟨cH, dG⟩ := Zb dE
   refine w_' ((e + 1)) (Zo (by have := cH; omega)) (q_ (i_ (e + 1)) (Za ?_))
   have db := (t_ (t_ (t_ (t_ O.n U.n) ae.n) aa.n) aB.n)
   have cy := (bF.dj bt (az.ltF.le db))
   have dY := (bK.fr bB (Dj.symm cy))
   have dc := (t_ (t_ (t_ U.n ae.n) aa.n) aB.n)
   obtain rfl := oi_ dG
   exact bR bX _ _ lt_ ⟨(e + 1), (aE ++ [((gt Arcs e).1, (gt Arcs e).2.1, (gt Arcs e).2.2.1, (gt Arcs e).2.2.2)]), (.slice aT aY aW), cC, aX, ha_, (fs_ O.wf (fs_ O.wf ((fs_ O.wf ((fs_ O.wf (fr_ O.wf) U ir_).extR ae) aa (ah.fresh U.n)).extR aB) a7 (aP.fresh (Nat.le_refl _))) bB ir_), dY, dF, (Inn.trans (aP.fresh (Nat.le_refl _)) dc bF)⟩
  have dH := Zi aK aN
  refine ZL (Zj (Zj (ZV ?_)))
  obtain rfl := oi_ dH
  obtain rfl := ZG aX
  exact c0 _ _ ⟨_, rfl, (.slice a1 bi a2), aJ, ha_, (fs_ O.wf (fr_ O.wf) U ir_), aD, bf, (aP.fresh (Nat.le_refl _))⟩
 obtain ⟨bj, rfl, bl, a8, bH, av, bT, bU, aO⟩ := hM
 have dI := elim_inr b6
 obtain ⟨β, rfl⟩ := Zh bH
 clear bH
 obtain ⟨ck, dd, cm, rfl⟩ := bT.form
 refine cX _ _ (sq_ fun cT => g_' (q_ (pt_ ak 1) (lr_ 31 1 (.slice ck dd cm) bU ?_)))
 have bu := (ab.djn (ay.ltF.le V.n))
 have dZ := ((((ay.ext V).ext Y).frS O bu).frS av bu)
 refine lr_ 73 0 (.agg #[i_ ap, i_ am, .int .u64 an, i_ aF]) dZ ?_
 refine Zb9 (enc := Zr) (sz := 4) av.wf [(ap, am, an, aF)] 1 (by decide) (fun _ _ => rfl) (fun _ _ => rfl) rfl (by kernel_rfl) fun ey eo ea aq es bL => ?_
 obtain ⟨ej, eu, el, rfl⟩ := bL.form
 have d0 := (bT.ext aq)
 obtain ⟨cI, dJ⟩ := Zb dI
 obtain ⟨ez, eb, cD, dr, aH, bM, be⟩ := Ow.append (P := Try.prog) 32 aq.wf d0 bL.sq (fun _ _ => rfl) (at_ := #[31, 31]) rfl rfl (by kernel_rfl) (by kernel_rfl) (by decide) (by have := cI; first | omega | (simp only [List.length_cons, List.length_nil] at this ⊢; omega) | (simp at this ⊢; omega))
 obtain ⟨ar, aw, au, rfl⟩ := bM.form
 refine ZaY (.slice ar aw au) (by kernel_rfl) (dr) ?_
 refine q_ (pt_ ak 1) ?_
 have bv := (aO.djn (az.ltF.le O.n))
 have d1 := ((bU.ext aq).frS aH bv)
 obtain ⟨ec, dt, aI, dK⟩ := rb_ 31 1 aH.wf d1 (.slice ar aw au) [.slice ac af ad, .slice ar aw au]
 refine ek_ dt (Za (cT _ _ (sq_ fun cU => g_' (lr_ 33 0 (.agg #[.slice ac af ad, .slice ar aw au]) dK (q_ (.bool true) ?_)))))
 have de := (t_ Y.n O.n)
 have bw := (aO.djn (ao.ltF.le de))
 have d2 := ((((((ao.ext Y).frS O (ab.djn ao.ltF)).frS av (ab.djn ao.ltF)).ext aq).frS aH bw).frS aI (ab.djn ao.ltF))
 have df := (t_ (t_ O.n av.n) aq.n)
 have cz := (be.dj bv (az.ltF.le df))
 have d3 := (bM.fr aI (Dj.symm cz))
 have a6 := (ab.djn (aC.lt.le ax))
 have bh := (t_ (t_ (t_ (t_ al.n ag.n) V.n) Y.n) O.n)
 have cA := (aO.djn (aC.lt.le bh))
 have eA := (((((cd.fr O a6).fr av a6).ext aq).fr aH cA).fr aI a6)
 obtain ⟨cj, du, bC, dL⟩ := ra_ 33 0 aI.wf d2 [.slice ac af ad, .slice ar aw au] [.slice ac af ad, .slice ar aw au]
 refine ek_ du (q_ (.bool true) (Za (cU _ _ ?_)))
 refine Zg ?_
 refine Zan (vs := [.agg #[.slice ac af ad, .slice ar aw au], .bool true]) (ZQ (Eq.trans (b := aL_ 33 (pt_ aG 0) cj) (by kernel_rfl) (dL.l_)) (rt_ (rfl))) ?_
 have dg := (t_ al.n ag.n)
 have dh := (t_ (t_ (t_ Y.n O.n) av.n) aq.n)
 have cB := (be.dj bw (ao.ltF.le dh))
 have d4 := (d3.fr bC (Dj.symm cB))
 have di := (t_ (t_ (t_ (t_ (t_ (t_ al.n ag.n) V.n) Y.n) O.n) av.n) aq.n)
 obtain rfl := oi_ dJ
 exact ⟨(.slice ar aw au), cD, rfl, (fs_ aj (fs_ aj (fs_ aj ((fs_ aj (fs_ aj (((((f0_ aj).extR al).extR ag).extR V).extR Y) O (ab.fresh ax)) av (ab.fresh ax)).extR aq) aH (aO.fresh bh)) aI (ab.fresh ax)) bC (bd.fresh dg)), d4.sq, (Inn.trans (aO.fresh bh) di be)⟩
theorem Zev {H : AH} {O : Value} {Y : Fp} {l : List (Int × Int × Int)} {af : Int} {r : List (Int × Int × Int)}
    (V : WF H) (ad : Ow Zc 3 H O l Y) (ai : ZbH l af = some r) :
    ACalls Try.prog 52 #[O, i_ af] H fun v H' => ∃ (ak : Value) (ag : Fp), v = ak /\ FrS Y H H' /\ Ow Zc 3 H' ak r ag /\ Inn Y H ag := by
 refine ab_ Try.func52 ?_
 unfold ZbH at ai
 refine sq_ fun aw => g_' (q_ (.slice none 0 0) (Za (aw _ _ (sq_ fun ax => g_' (q_ (O) (q_ (i_ af) ?_))))))
 obtain ⟨e, ap, aj⟩ := bs_ ai
 refine ck_ (Zeb V ad.sq ap) ?_
 rintro _ aE ⟨rfl, U⟩
 refine q_ (.tuple #[i_ e.1, .bool e.2]) (q_ (i_ e.1) (q_ (.bool e.2) (q_ (i_ e.1) (q_ (.bool e.2) (Za (ax _ _ (sq_ fun aq => sq_ fun ar => g_' (q_ (.bool e.2) (q_ (.bool (!e.2)) (Za (ar _ _ ?_)))))))))))
 refine wb_ ((!e.2)) (fun ac => ?_) fun ac => ?_
 ·have ay := Ze ac aj
  refine sq_ fun au => g_' (q_ (O) (q_ (O) (Za (au _ _ ?_))))
  refine Zg (Zn ?_)
  refine br_ [O] ?_
  have aC := (ad.fr U dn_)
  obtain rfl := oi_ ay
  exact ⟨(O), Y, rfl, (fs_ V (fr_ V) U in_), aC, ir_⟩
 have az := ZK ac aj
 refine Zf (aq _ _ (sq_ fun av => g_' (q_ (O) (q_ (i_ e.1) (q_ (i_ e.1) ?_)))))
 obtain ⟨am, aA⟩ := Zb az
 refine w_' ((e.1 + 1)) (Zo am) ?_
 have aD := (ad.fr U dn_)
 obtain ⟨an, aB⟩ := Zb aA
 refine Zju 66 #[O, i_ e.1, i_ (e.1 + 1)] (by kernel_rfl) (ZlL U.wf aD an) ?_
 rintro aG aF ⟨f28, al, ah, ao⟩
 obtain ⟨aa, ae, ab, rfl⟩ := ah.form
 refine q_ (.slice aa ae ab) (Za (av _ _ ?_))
 refine Zg ?_
 refine br_ [.slice aa ae ab] ?_
 obtain rfl := oi_ aB
 exact ⟨(.slice aa ae ab), f28, rfl, (fs_ V (fs_ V (fr_ V) U in_) al ir_), ah, (Inn.trans ir_ U.n ao)⟩
end Go.Vd

/-! (KSb4) -/

set_option maxRecDepth 100000
set_option maxHeartbeats 4000000
set_option linter.unusedVariables false
namespace Go.Vd
open Go.Proofs
attribute [local irreducible] Zm Zp aWp
theorem ZeM {H : AH} {U : Nat} {aa : Value} {aP : Fp} {O : List (Bool × List (Int × Int × Int) × List (Int × Int × Int))} {ay : Int} {aq : Int} {e : Int} {r : Er × List (Bool × List (Int × Int × Int) × List (Int × Int × Int)) × Int × Int}
    (aj : WF H) (a2 : Nd Zc 3 H aa O aP []) (ac : Row H U [aa, i_ ay, i_ aq]) (bn : Dj aP [U]) (cd : ZaR O ay aq e = some r) :
    ACalls Try.prog 34 #[pt_ U 0, i_ e] H fun v H' => ∃ (v3 : Value) (bq : Fp) (br : Fp), v = v3 /\ FrS ([U] ++ aP) H H' /\ Ev 90 129 H' v3 r.1 bq /\ Nd Zc 3 H' aa r.2.1 br [] /\ Row H' U [aa, i_ r.2.2.1, i_ r.2.2.2] /\ Inn [] H bq /\ Inn aP H br /\ Dj bq br := by
 refine ab_ Try.func34 ?_
 unfold ZaR at cd
 refine sq_ fun dL => g_' (q_ (.nilIface) (Za (dL _ _ (sq_ fun dM => sq_ fun dN => g_' (q_ (pt_ U 0) (q_ (.bool false) (Za (dN _ _ ?_))))))))
 refine wb_ false (fun h => by cases h) fun _ => ?_
 refine Zf (dM _ _ (sq_ fun dO => sq_ fun dP => g_' (q_ (pt_ U 0) (q_ (i_ e) ?_))))
 obtain ⟨cH, dH, cq⟩ := bs_ cd
 refine ck_ (ZY aj a2 ac dH) ?_
 rintro _ _ ⟨rfl, rfl⟩
 refine q_ (.bool (!cH)) (Za (dP _ _ ?_))
 refine wb_ ((!cH)) (fun bs => ?_) fun bs => ?_
 ·have eH := Ze bs cq
  refine sq_ fun dY => g_' (q_ (.iface 90 (i_ 7)) (q_ (.iface 90 (i_ 7)) (Za (dY _ _ ?_))))
  refine Zg (Zn ?_)
  refine br_ [.iface 90 (i_ 7)] ?_
  obtain rfl := oi_ eH
  exact ⟨(.iface 90 (i_ 7)), [], aP, rfl, (fr_ aj), Ev.no, a2, ac, in_, ir_, dn_⟩
 have eJ := ZK bs cq
 refine Zf (dO _ _ (sq_ fun dZ => g_' (q_ (pt_ U 0) (q_ (pt_ U 0) (q_ (pt_ U 0) (lr_ 114 0 (aa) ac (q_ (i_ e) ?_)))))))
 obtain ⟨ai, eM⟩ := Zb eJ
 refine a2.ix_ 114 ai.1 ai.2 ?_
 obtain ⟨fF, fG, aN, fx, fy, dq, bv, ba, aS, bl, bm, fm, dB, dC, dD⟩ := Nd.open2 a2 ai.1 ai.2
 have az := Inn.sub' (H := H) dB
 have fH := Inn.sub' (H := H) dC
 have fI := Inn.sub' (H := H) dD
 obtain ⟨aA, aK, aC, rfl⟩ := ba.form
 obtain ⟨aB, aL, aD, rfl⟩ := aS.form
 refine l_' (.agg #[.bool ((gt O e).1), .slice aA aK aC, .slice aB aL aD]) (aL_ 120 (elp aa 3 e.toNat 0) H) (dq _ _ _ (by kernel_rfl)) ?_
 refine rk_ aj [.bool false, .slice none 0 0, .slice none 0 0] fun an fd ae ap cw => ?_
 have e2 := (aS.ext ae)
 have e3 := (ba.ext ae)
 obtain ⟨aX, eu, ab, cx⟩ := ra_ 120 0 ae.wf cw [.bool ((gt O e).1), .slice aA aK aC, .slice aB aL aD] [.bool ((gt O e).1), .slice aA aK aC, .slice aB aL aD]
 refine ek_ eu (Za (dZ _ _ (sq_ fun d4 => sq_ fun d5 => g_' (q_ (pt_ an 1) (lr_ 69 1 (.slice aA aK aC) cx ?_)))))
 have bJ := (e3.fr ab (ap.djn ba.lt))
 refine bJ.sq.ln_ 69 (q_ (i_ 0) (Za (d5 _ _ ?_)))
 obtain ⟨bB, dF, eS⟩ := bs_ eM
 refine ZC (fun α av => ∃ (ao : Fp), Has α [(0, pt_ U 0), (1, i_ e), (5, pt_ an 0)] /\ FrS aN aX av /\ Nd Zc 3 av aa bB ao [(e.toNat, true), (e.toNat, false)] /\ Inn aN aX ao) (fun _ d6 => ?_) (fun α av hM => ?_)
 ·refine Zk ?_
  obtain ⟨cn, du⟩ := Zv.1 dF
  have e4 := ((bv.ext ae).fr ab (ap.djn bv.lt))
  refine ZJ (fun n α bj => ∃ (ah : List (Bool × List (Int × Int × Int) × List (Int × Int × Int))), ∃ (V : Int), ∃ (aO : Fp), ZN (fun zz_ => Zae O e zz_.1 zz_.2) n (ah, V) = some bB /\ Has α [(0, pt_ U 0), (1, i_ e), (5, pt_ an 0), (26, .slice aA aK aC), (27, i_ (((gt O e).2.1).length : Int)), (28, i_ V)] /\ FrS aN aX bj /\ Nd Zc 3 bj aa ah aO [(e.toNat, true), (e.toNat, false)] /\ Inn aN aX aO) cn ⟨O, 0, aN, du, ha_, (fr_ ab.wf), e4, ir_⟩ ?_
  rintro cn α bj ⟨ah, V, aO, di, b_, al, bc, aW⟩ ff d7
  obtain ⟨el, e8, rfl, aU, cc⟩ := Zx di
  obtain ⟨β, rfl⟩ := Zh b_
  clear b_
  replace aU : Zae O e ah V = some e8 := aU
  unfold Zae at aU
  refine sq_ fun d8 => g_' (q_ (.bool (decide (V < (((gt O e).2.1).length : Int)))) (Za (d8 _ _ (sq_ fun d9 => ?_))))
  refine wc_ (V < (((gt O e).2.1).length : Int)) (fun aQ => ?_) fun aQ => ?_
  ·have ew := Ze aQ aU
   refine Zf (d9 _ _ (sq_ fun dJ => Zk (sq_ fun dK => g_' ?_)))
   obtain ⟨bX, ex⟩ := Zb ew
   have cy := (bJ.fr al bl)
   refine cy.sq.ix_ 69 bX aQ (le_ 71 0 (.agg #[i_ ((gt ((gt O e).2.1) V).1), .int .u64 ((gt ((gt O e).2.1) V).2.1), i_ ((gt ((gt O e).2.1) V).2.2)]) cy.sq bX aQ ?_)
   refine rk_ al.wf [i_ 0, .int .u64 0, i_ 0] fun aY e9 aE a6 cp => ?_
   obtain ⟨ar, em, aw, bC⟩ := ra_ 71 0 aE.wf cp [i_ ((gt ((gt O e).2.1) V).1), .int .u64 ((gt ((gt O e).2.1) V).2.1), i_ ((gt ((gt O e).2.1) V).2.2)] [i_ ((gt ((gt O e).2.1) V).1), .int .u64 ((gt ((gt O e).2.1) V).2.1), i_ ((gt ((gt O e).2.1) V).2.2)]
   refine ek_ em (Za (dK _ _ ?_))
   refine ZW [0, 1, 2, 3, 4, 5, 6, 7, 8, 9, 10, 11, 12, 13, 14, 15, 16, 17, 18, 19] (by kernel_rfl) ?_
   refine e_' (pt_ U 0) (e_' (pt_ U 0) (e_' (pt_ U 0) ?_))
   have bM := (az.dj bn ac.ltF)
   have eb := (t_ (t_ ae.n ab.n) al.n)
   have cP := (a6.djn (ac.ltF.le eb))
   have bE := (((((ac.ext ae).frS ab (ap.djn ac.ltF)).frS al bM).ext aE).frS aw cP)
   refine Zdf (aa) (x := aL_ 114 (pt_ U 0) ar) (by kernel_rfl) (bE.l_) ?_
   refine e_' (pt_ aY 0) ?_
   refine Zdf (i_ ((gt ((gt O e).2.1) V).1)) (x := aL_ 3 (pt_ aY 0) ar) (by kernel_rfl) (bC.l_) ?_
   refine e_' (pt_ U 0) (e_' (pt_ U 0) (e_' (pt_ U 0) (mr_ 114 0 (aa) bE (e_' (pt_ aY 0) (mr_ 3 0 (i_ ((gt ((gt O e).2.1) V).1)) bC ?_)))))
   obtain ⟨af, ey⟩ := Zb ex
   have bd := ((bc.ext aE).fr aw (a6.djn bc.lt))
   refine bd.mx_ 114 af.1 af.2 (m_' (elp aa 3 ((gt ((gt O e).2.1) V).1).toNat 2) (ZA Try.prog 120 (elp aa 3 ((gt ((gt O e).2.1) V).1).toNat 0) 2) (Nd.fldq (d := 2) bd af.1 af.2 (by kernel_rfl)) ?_)
   obtain ⟨bY, ez⟩ := Zb ey
   obtain ⟨fD, eT, dn, dk⟩ := Nd.at bd af.1 af.2
   have cg : KdS Zc 3 ar eT ((gt ah ((gt ((gt O e).2.1) V).1)).2.2) aO aa 3 ((gt ((gt O e).2.1) V).1).toNat 2 := dk true (by have := bY; have := af.1; have := ai.1; simp; omega)
   obtain ⟨cL, ec, cN, rfl⟩ := cg.sq.form
   refine m_' (.slice cL ec cN) (aL_ 69 (elp aa 3 ((gt ((gt O e).2.1) V).1).toNat 2) ar) (dn _ _ _ _ (by kernel_rfl)) (e_' (i_ e) ?_)
   obtain ⟨c9, fo, a8, dv, bN, dx, dy⟩ := Nd.borrow true bd af.1 af.2 (by have := bY; have := af.1; have := ai.1; simp; omega) cg rfl
   have cE := Inn.sub' (H := ar) dx
   have bf := Inn.sub' (H := ar) dy
   have a8 : Nd Zc 3 ar aa ah c9 [(((gt ((gt O e).2.1) V).1).toNat, true), (e.toNat, true), (e.toNat, false)] := a8
   obtain ⟨cG, dG, eA⟩ := bs_ ez
   refine dk_ (Zev aw.wf dv dG) ?_
   rintro fB bK ⟨_, fu, rfl, aF, ci, ce⟩
   obtain ⟨fg, fz, fj, rfl⟩ := ci.form
   have ed := (t_ ae.n ab.n)
   have cQ := (aW.dj bM (ac.ltF.le ed))
   have ee := (t_ (t_ (t_ (t_ ae.n ab.n) al.n) aE.n) aw.n)
   have cR := (bf.dj cQ (ac.ltF.le ee))
   have eU := (bE.frS aF cR)
   have cS := (a6.djn bc.lt)
   have cT := (bf.dj (Dj.symm cS) (cp.ltF.le aw.n))
   have eV := (bC.frS aF cT)
   refine ⟨ZbX (y := aL_ 3 (pt_ aY 0) bK) (by kernel_rfl) (eV.l_) (ZbX (y := aL_ 114 (pt_ U 0) bK) (by kernel_rfl) (eU.l_) (ZS)), ?_⟩
   have bF := (a8.fr aF (Dj.symm bN))
   refine bF.mx_ 114 af.1 af.2 (m_' (elp aa 3 ((gt ((gt O e).2.1) V).1).toNat 2) (ZA Try.prog 120 (elp aa 3 ((gt ((gt O e).2.1) V).1).toNat 0) 2) (Nd.fldq (d := 2) bF af.1 af.2 (by kernel_rfl)) ?_)
   have cU := (ce.dj (Dj.symm bN) a8.lt)
   obtain ⟨cJ, bV, eo, c7, bt, df⟩ := Nd.close (P := Try.prog) (t := 69) true aF.wf bF ci (Dj.symm cU) af.1 af.2 (by kernel_rfl) (by kernel_rfl) (by kernel_rfl)
   have bt : Nd Zc 3 cJ aa (ah.set ((gt ((gt O e).2.1) V).1).toNat ((gt ah ((gt ((gt O e).2.1) V).1)).1, (gt ah ((gt ((gt O e).2.1) V).1)).2.1, cG)) bV [(e.toNat, true), (e.toNat, false)] := bt
   have e5 := df.grow3 (Inn.trans ir_ (Nat.le_refl _) cE) (Inn.trans (Inn.trans ir_ (Nat.le_refl _) bf) (Nat.le_refl _) ce) aF.n
   refine fk_ eo (ZaH (by kernel_rfl) (ZaH (by kernel_rfl) (ZS))) ?_
   refine ZR ?_
   refine dJ _ _ (g_' ?_)
   obtain ⟨da, eB⟩ := Zb eA
   refine w_' ((V + 1)) (Zo (by have := da; omega)) (q_ (i_ (V + 1)) (Za ?_))
   have bx := (t_ (t_ al.n aE.n) aw.n)
   obtain rfl := oi_ eB
   exact d7 el _ _ lt_ ⟨(ah.set ((gt ((gt O e).2.1) V).1).toNat ((gt ah ((gt ((gt O e).2.1) V).1)).1, (gt ah ((gt ((gt O e).2.1) V).1)).2.1, cG)), (V + 1), bV, cc, ha_, (fs_ ab.wf (fs_ ab.wf (fs_ ab.wf ((fs_ ab.wf (fr_ ab.wf) al ir_).extR aE) aw (a6.fresh al.n)) aF (Inn.trans (Inn.trans ir_ (Nat.le_refl _) aW) bx bf)) c7 (Inn.trans (Inn.trans ir_ (Nat.le_refl _) aW) bx cE)), bt, (Inn.trans (Inn.trans ir_ (Nat.le_refl _) aW) bx e5)⟩
  have eC := Zi aQ aU
  refine ZL (Zj (Zj (ZV ?_)))
  obtain rfl := oi_ eC
  obtain rfl := ZG cc
  exact d6 _ _ ⟨aO, ha_, (fs_ ab.wf (fr_ ab.wf) al ir_), bc, (Inn.trans ir_ (Nat.le_refl _) aW)⟩
 obtain ⟨ao, b9, ad, ea, am⟩ := hM
 obtain ⟨β, rfl⟩ := Zh b9
 clear b9
 refine d4 _ _ (sq_ fun dQ => sq_ fun dR => g_' (q_ (pt_ an 2) ?_))
 have bO := (ap.djn bv.lt)
 have cz := (cx.frS ad (Dj.symm bO))
 refine lr_ 69 2 (.slice aB aL aD) cz ?_
 have bG := ((e2.fr ab (ap.djn aS.lt)).fr ad bm)
 refine bG.sq.ln_ 69 (q_ (i_ 0) (Za (dR _ _ ?_)))
 obtain ⟨co, dE, eD⟩ := bs_ eS
 refine ZC (fun α bh => ∃ (a1 : Fp), Has α [(0, pt_ U 0), (1, i_ e), (5, pt_ an 0)] /\ FrS ao av bh /\ Nd Zc 3 bh aa co a1 [(e.toNat, true), (e.toNat, false)] /\ Inn ao av a1) (fun _ dS => ?_) (fun α bh hM => ?_)
 ·refine Zk ?_
  obtain ⟨ck, dt⟩ := Zv.1 dE
  refine ZJ (fun n α bi => ∃ (o2 : List (Bool × List (Int × Int × Int) × List (Int × Int × Int))), ∃ (Y : Int), ∃ (aM : Fp), ZN (fun zz_ => Zaa O e zz_.1 zz_.2) n (o2, Y) = some co /\ Has α [(0, pt_ U 0), (1, i_ e), (5, pt_ an 0), (53, .slice aB aL aD), (54, i_ (((gt O e).2.2).length : Int)), (55, i_ Y)] /\ FrS ao av bi /\ Nd Zc 3 bi aa o2 aM [(e.toNat, true), (e.toNat, false)] /\ Inn ao av aM) ck ⟨bB, 0, ao, dt, ha_, (fr_ ad.wf), ea, ir_⟩ ?_
  rintro ck α bi ⟨o2, Y, aM, dh, b8, ak, bb, aV⟩ fe dT
  obtain ⟨ef, e7, rfl, aT, ca⟩ := Zx dh
  obtain ⟨β, rfl⟩ := Zh b8
  clear b8
  replace aT : Zaa O e o2 Y = some e7 := aT
  unfold Zaa at aT
  refine sq_ fun dU => g_' (q_ (.bool (decide (Y < (((gt O e).2.2).length : Int)))) (Za (dU _ _ (sq_ fun dV => ?_))))
  refine wc_ (Y < (((gt O e).2.2).length : Int)) (fun aR => ?_) fun aR => ?_
  ·have eE := Ze aR aT
   refine Zf (dV _ _ (sq_ fun dW => Zk (sq_ fun dX => g_' ?_)))
   obtain ⟨bZ, eF⟩ := Zb eE
   have cm := (t_ ae.n ab.n)
   have cV := (am.dj bm (aS.lt.le cm))
   have cA := (bG.fr ak cV)
   refine cA.sq.ix_ 69 bZ aR (le_ 71 0 (.agg #[i_ ((gt ((gt O e).2.2) Y).1), .int .u64 ((gt ((gt O e).2.2) Y).2.1), i_ ((gt ((gt O e).2.2) Y).2.2)]) cA.sq bZ aR ?_)
   refine rk_ ak.wf [i_ 0, .int .u64 0, i_ 0] fun aZ e_ aH a7 cr => ?_
   obtain ⟨au, ep, ax, bD⟩ := ra_ 71 0 aH.wf cr [i_ ((gt ((gt O e).2.2) Y).1), .int .u64 ((gt ((gt O e).2.2) Y).2.1), i_ ((gt ((gt O e).2.2) Y).2.2)] [i_ ((gt ((gt O e).2.2) Y).1), .int .u64 ((gt ((gt O e).2.2) Y).2.1), i_ ((gt ((gt O e).2.2) Y).2.2)]
   refine ek_ ep (Za (dX _ _ ?_))
   refine ZW [0, 1, 2, 3, 4, 5, 6, 7, 8, 9, 10, 11, 12, 13, 14, 15, 16, 17, 18, 19] (by kernel_rfl) ?_
   refine e_' (pt_ U 0) (e_' (pt_ U 0) (e_' (pt_ U 0) ?_))
   have bP := (az.dj bn ac.ltF)
   have bQ := (am.dj bP (ac.ltF.le cm))
   have eg := (t_ (t_ (t_ ae.n ab.n) ad.n) ak.n)
   have cW := (a7.djn (ac.ltF.le eg))
   have bH := ((((((ac.ext ae).frS ab (ap.djn ac.ltF)).frS ad bP).frS ak bQ).ext aH).frS ax cW)
   refine Zdf (aa) (x := aL_ 114 (pt_ U 0) au) (by kernel_rfl) (bH.l_) ?_
   refine e_' (pt_ aZ 0) ?_
   refine Zdf (i_ ((gt ((gt O e).2.2) Y).1)) (x := aL_ 3 (pt_ aZ 0) au) (by kernel_rfl) (bD.l_) ?_
   refine e_' (pt_ U 0) (e_' (pt_ U 0) (e_' (pt_ U 0) (mr_ 114 0 (aa) bH (e_' (pt_ aZ 0) (mr_ 3 0 (i_ ((gt ((gt O e).2.2) Y).1)) bD ?_)))))
   obtain ⟨ag, eG⟩ := Zb eF
   have be := ((bb.ext aH).fr ax (a7.djn bb.lt))
   refine be.mx_ 114 ag.1 ag.2 (m_' (elp aa 3 ((gt ((gt O e).2.2) Y).1).toNat 1) (ZA Try.prog 120 (elp aa 3 ((gt ((gt O e).2.2) Y).1).toNat 0) 1) (Nd.fldq (d := 1) be ag.1 ag.2 (by kernel_rfl)) ?_)
   obtain ⟨b5, eI⟩ := Zb eG
   obtain ⟨eW, fE, dp, dm⟩ := Nd.at be ag.1 ag.2
   have ch : KdS Zc 3 au eW ((gt o2 ((gt ((gt O e).2.2) Y).1)).2.1) aM aa 3 ((gt ((gt O e).2.2) Y).1).toNat 1 := dm false (by have := b5; have := ag.1; have := ai.1; simp; omega)
   obtain ⟨cM, eh, cO, rfl⟩ := ch.sq.form
   refine m_' (.slice cM eh cO) (aL_ 69 (elp aa 3 ((gt ((gt O e).2.2) Y).1).toNat 1) au) (dp _ _ _ _ (by kernel_rfl)) (e_' (i_ e) ?_)
   obtain ⟨c_, fv, a_, dw, bR, dz, dA⟩ := Nd.borrow false be ag.1 ag.2 (by have := b5; have := ag.1; have := ai.1; simp; omega) ch rfl
   have cF := Inn.sub' (H := au) dz
   have bg := Inn.sub' (H := au) dA
   have a_ : Nd Zc 3 au aa o2 c_ [(((gt ((gt O e).2.2) Y).1).toNat, false), (e.toNat, true), (e.toNat, false)] := a_
   obtain ⟨cI, dI, eK⟩ := bs_ eI
   refine dk_ (Zev ax.wf dw dI) ?_
   rintro fC bL ⟨_, fw, rfl, aI, cj, cf⟩
   obtain ⟨fh, fA, fk, rfl⟩ := cj.form
   have ej := (t_ (t_ ae.n ab.n) ad.n)
   have cX := (aV.dj bQ (ac.ltF.le ej))
   have ek := (t_ (t_ (t_ (t_ (t_ ae.n ab.n) ad.n) ak.n) aH.n) ax.n)
   have cY := (bg.dj cX (ac.ltF.le ek))
   have eX := (bH.frS aI cY)
   have cZ := (a7.djn bb.lt)
   have c0 := (bg.dj (Dj.symm cZ) (cr.ltF.le ax.n))
   have eY := (bD.frS aI c0)
   refine ⟨ZbX (y := aL_ 3 (pt_ aZ 0) bL) (by kernel_rfl) (eY.l_) (ZbX (y := aL_ 114 (pt_ U 0) bL) (by kernel_rfl) (eX.l_) (ZS)), ?_⟩
   have bI := (a_.fr aI (Dj.symm bR))
   refine bI.mx_ 114 ag.1 ag.2 (m_' (elp aa 3 ((gt ((gt O e).2.2) Y).1).toNat 1) (ZA Try.prog 120 (elp aa 3 ((gt ((gt O e).2.2) Y).1).toNat 0) 1) (Nd.fldq (d := 1) bI ag.1 ag.2 (by kernel_rfl)) ?_)
   have c3 := (cf.dj (Dj.symm bR) a_.lt)
   obtain ⟨cK, bW, eq, c8, bu, dg⟩ := Nd.close (P := Try.prog) (t := 69) false aI.wf bI cj (Dj.symm c3) ag.1 ag.2 (by kernel_rfl) (by kernel_rfl) (by kernel_rfl)
   have bu : Nd Zc 3 cK aa (o2.set ((gt ((gt O e).2.2) Y).1).toNat ((gt o2 ((gt ((gt O e).2.2) Y).1)).1, cI, (gt o2 ((gt ((gt O e).2.2) Y).1)).2.2)) bW [(e.toNat, true), (e.toNat, false)] := bu
   have e6 := dg.grow3 (Inn.trans ir_ (Nat.le_refl _) cF) (Inn.trans (Inn.trans ir_ (Nat.le_refl _) bg) (Nat.le_refl _) cf) aI.n
   refine fk_ eq (ZaH (by kernel_rfl) (ZaH (by kernel_rfl) (ZS))) ?_
   refine ZR ?_
   refine dW _ _ (g_' ?_)
   obtain ⟨db, eL⟩ := Zb eK
   refine w_' ((Y + 1)) (Zo (by have := db; omega)) (q_ (i_ (Y + 1)) (Za ?_))
   have bz := (t_ (t_ ak.n aH.n) ax.n)
   obtain rfl := oi_ eL
   exact dT ef _ _ lt_ ⟨(o2.set ((gt ((gt O e).2.2) Y).1).toNat ((gt o2 ((gt ((gt O e).2.2) Y).1)).1, cI, (gt o2 ((gt ((gt O e).2.2) Y).1)).2.2)), (Y + 1), bW, ca, ha_, (fs_ ad.wf (fs_ ad.wf (fs_ ad.wf ((fs_ ad.wf (fr_ ad.wf) ak ir_).extR aH) ax (a7.fresh ak.n)) aI (Inn.trans (Inn.trans ir_ (Nat.le_refl _) aV) bz bg)) c8 (Inn.trans (Inn.trans ir_ (Nat.le_refl _) aV) bz cF)), bu, (Inn.trans (Inn.trans ir_ (Nat.le_refl _) aV) bz e6)⟩
  have eN := Zi aR aT
  refine ZL (Zj (Zj (ZV ?_)))
  obtain rfl := oi_ eN
  obtain rfl := ZG ca
  exact dS _ _ ⟨aM, ha_, (fs_ ad.wf (fr_ ad.wf) ak ir_), bb, (Inn.trans ir_ (Nat.le_refl _) aV)⟩
 obtain ⟨a1, b7, aG, d_, bw⟩ := hM
 obtain ⟨β, rfl⟩ := Zh b7
 clear b7
 refine dQ _ _ (sq_ fun d0 => ?_)
 refine ZW [0, 1, 2, 3, 4, 5, 6, 7, 8, 9, 10, 11, 12, 13, 14] (by kernel_rfl) ?_
 refine e_' (pt_ U 0) (e_' (pt_ U 0) (e_' (pt_ U 2) ?_))
 have bS := (az.dj bn ac.ltF)
 have aJ := (t_ ae.n ab.n)
 have bT := (am.dj bS (ac.ltF.le aJ))
 have cB := ((((ac.ext ae).frS ab (ap.djn ac.ltF)).frS ad bS).frS aG bT)
 refine mr_ 3 2 (i_ aq) cB (e_' (pt_ an 1) ?_)
 have c4 := (am.dj (Dj.symm bO) (cw.ltF.le ab.n))
 have cC := (cz.frS aG c4)
 refine mr_ 69 1 (.slice aA aK aC) cC ?_
 have c5 := (am.dj bl (ba.lt.le aJ))
 have eZ := ((bJ.fr ad bl).fr aG c5)
 refine eZ.sq.mn_ 69 (e_' (pt_ an 2) (mr_ 69 2 (.slice aB aL aD) cC ?_))
 have c6 := (am.dj bm (aS.lt.le aJ))
 have e0 := (bG.fr aG c6)
 refine e0.sq.mn_ 69 ?_
 obtain ⟨dc, eO⟩ := Zb eD
 refine d_w (((((gt O e).2.1).length : Int) + (((gt O e).2.2).length : Int))) (k := .i64) (x := ((((gt O e).2.1).length : Int) + (((gt O e).2.2).length : Int))) (by kernel_rfl) (Zo dc) ?_
 obtain ⟨dd, eP⟩ := Zb eO
 refine d_w ((aq - ((((gt O e).2.1).length : Int) + (((gt O e).2.2).length : Int)))) (k := .i64) (x := (aq - ((((gt O e).2.1).length : Int) + (((gt O e).2.2).length : Int)))) (by kernel_rfl) (Zo dd) ?_
 refine e_' (pt_ U 0) (e_' (pt_ U 2) ?_)
 obtain ⟨fa, er, bo, cu⟩ := rb_ 3 2 aG.wf cB (i_ (aq - ((((gt O e).2.1).length : Int) + (((gt O e).2.2).length : Int)))) [aa, i_ ay, i_ (aq - ((((gt O e).2.1).length : Int) + (((gt O e).2.2).length : Int)))]
 refine fk_ er (ZS) ?_
 refine ZR ?_
 refine d0 _ _ (sq_ fun d1 => g_' (q_ (pt_ U 0) (q_ (pt_ U 0) (q_ (pt_ U 1) (lr_ 3 1 (i_ ay) cu ?_)))))
 obtain ⟨de, eQ⟩ := Zb eP
 refine w_' ((ay - 1)) (Zo de) (q_ (pt_ U 0) (q_ (pt_ U 1) ?_))
 obtain ⟨fb, es, bp, cv⟩ := rb_ 3 1 bo.wf cu (i_ (ay - 1)) [aa, i_ (ay - 1), i_ (aq - ((((gt O e).2.1).length : Int) + (((gt O e).2.2).length : Int)))]
 refine ek_ es (Za (d1 _ _ (sq_ fun d2 => g_' (q_ (pt_ U 0) (q_ (pt_ U 0) (q_ (pt_ U 0) (lr_ 114 0 (aa) cv (q_ (i_ e) (q_ (.agg #[.bool true, .slice none 0 0, .slice none 0 0]) ?_)))))))))
 obtain ⟨b6, eR⟩ := Zb eQ
 have bA := (t_ (t_ ae.n ab.n) ad.n)
 have bk := (bw.dj bT (ac.ltF.le bA))
 have cD := ((d_.fr bo (Dj.symm bk)).fr bp (Dj.symm bk))
 refine cD.ix_ 114 ai.1 b6 ?_
 obtain ⟨fc, et, bU, dr⟩ := Nd.clearAt (P := Try.prog) (t := 120) (v := .agg #[.bool true, .slice none 0 0, .slice none 0 0]) (b0 := true) (hol' := []) bp.wf cD (by decide) ai.1 b6 (by kernel_rfl) (by kernel_rfl) (by simp)
 refine ek_ et (Za (d2 _ _ (sq_ fun d3 => g_' (q_ (.nilIface) (Za (d3 _ _ ?_))))))
 refine Zg ?_
 refine br_ [.nilIface] ?_
 have e1 := (cv.frS bU bk)
 obtain rfl := oi_ eR
 exact ⟨(.nilIface), [], a1, rfl, (fs_ aj (fs_ aj (fs_ aj (fs_ aj (fs_ aj (fs_ aj ((fr_ aj).extR ae) ab (ap.fresh (Nat.le_refl _))) ad (Inn.trans (Inn.right ir_) (Nat.le_refl _) az)) aG (Inn.trans (Inn.trans (Inn.right ir_) (Nat.le_refl _) az) aJ am)) bo Inn.left) bp Inn.left) bU (Inn.trans (Inn.trans (Inn.trans (Inn.right ir_) (Nat.le_refl _) az) aJ am) bA bw)), Ev.nil, dr, e1, in_, (Inn.trans (Inn.trans (Inn.trans ir_ (Nat.le_refl _) az) aJ am) bA bw), dn_⟩
theorem ZdR {H : AH} {aN : Value} {bZ : Fp} {ap : Value} {b5 : Fp} {be : List (Bool)} {Arcs : List (Int × Int × Int × Int)} {ad : Int} {r : List (Bool) × List (Int × Int × Int × Int)}
    (al : WF H) (bm : Sq Zc2 1 H aN be bZ) (aM : Sq Zr 4 H ap Arcs b5) (bt : ZaK be Arcs ad = some r) :
    ACalls Try.prog 15 #[.agg #[aN, ap], i_ ad] H fun v H' => ∃ (bG : Value) (aV : Fp) (bH : Value) (aW : Fp), v = .agg #[bG, bH] /\ FrS [] H H' /\ Ow Zc2 1 H' bG r.1 aV /\ Ow Zr 4 H' bH r.2 aW /\ Inn [] H aV /\ Inn [] H aW /\ Dj aV aW := by
 refine ab_ Try.func15 ?_
 unfold ZaK at bt
 refine sq_ fun ci => g_' ?_
 refine ZbJ al [aN, ap] (Zy (bm.one1) (Zy (aM.one1) (Zau))) (by kernel_rfl) fun bg dh aj dx bb => ?_
 refine rk_ aj.wf [.slice none 0 0, .slice none 0 0] fun aH dn ag b_ aC => ?_
 refine Za (ci _ _ (sq_ fun cm => g_' ?_))
 refine rk_ ag.wf [.slice none 0 0, .slice none 0 0] fun Y dp ae ao ak => ?_
 refine Za (cm _ _ (sq_ fun cn => g_' (q_ (pt_ Y 0) (lr_ 30 0 (.slice none 0 0) ak (q_ (pt_ bg 0) ?_)))))
 have bK := ((bb.ext ag).ext ae)
 refine lr_ 30 0 (aN) bK ?_
 obtain ⟨b9, cY⟩ := Zb bt
 have dc := (((bm.ext aj).ext ag).ext ae)
 obtain ⟨dC, dq, bY, cI, ab, aZ, aq⟩ := Ow.append (P := Try.prog) 1 ae.wf (Ow.nil (enc := Zc2) (sz := 1) (by decide)) dc (fun _ _ => rfl) (at_ := #[30, 30]) rfl rfl (by kernel_rfl) (by kernel_rfl) (by decide) (by have := b9; first | omega | (simp only [List.length_cons, List.length_nil] at this ⊢; omega) | (simp at this ⊢; omega))
 obtain ⟨V, ac, aa, rfl⟩ := aZ.form
 refine ZaY (.slice V ac aa) (by kernel_rfl) (cI) ?_
 refine q_ (pt_ Y 0) ?_
 have dd := (ak.frS ab dn_)
 obtain ⟨dr, cJ, U, bF⟩ := rb_ 30 0 ab.wf dd (.slice V ac aa) [.slice V ac aa, .slice none 0 0]
 refine ek_ cJ (Za (cn _ _ (sq_ fun co => g_' (q_ (pt_ Y 0) (lr_ 30 0 (.slice V ac aa) bF (q_ (i_ ad) ?_))))))
 obtain ⟨aL, cZ⟩ := Zb cY
 have aS := (aq.djn ak.ltF)
 have bL := (aZ.fr U (Dj.symm aS))
 refine bL.sq.ix_ 30 aL.1 aL.2 ?_
 obtain ⟨aD, cK, O, cc⟩ := Ow.store (P := Try.prog) (t := 4) (off := 0) U.wf bL aL.1 aL.2 (.bool false) [.bool false] (by kernel_rfl) (by kernel_rfl) rfl false (Nat.le_of_ble_eq_true rfl) (by kernel_rfl)
 refine ek_ cK (Za (co _ _ (sq_ fun cp => sq_ fun cq => g_' (q_ (pt_ bg 1) ?_))))
 have bU := (ao.djn (bb.ltF.le ag.n))
 have cD := (t_ ag.n ae.n)
 have bV := (aq.djn (bb.ltF.le cD))
 have de := (((bK.frS ab dn_).frS U bU).frS O bV)
 refine lr_ 31 1 (ap) de ?_
 have a8 := (t_ aj.n ag.n)
 have bj := (ao.djn (aM.lt.le a8))
 have a_ := (t_ (t_ aj.n ag.n) ae.n)
 have bW := (aq.djn (aM.lt.le a_))
 have bM := ((((((aM.ext aj).ext ag).ext ae).fr ab dn_).fr U bj).fr O bW)
 refine bM.ln_ 31 (q_ (i_ 0) (Za (cq _ _ ?_)))
 obtain ⟨bD, ce, c0⟩ := bs_ cZ
 refine ZC (fun α aE => ∃ (bc : Value) (aK : Fp), Has α [(4, pt_ aH 0), (5, pt_ Y 0)] /\ FrS [Y] aD aE /\ Ow Zr 4 aE bc bD aK /\ Row aE Y [.slice V ac aa, bc] /\ Inn [] aD aK) (fun _ cr => ?_) (fun α aE hM => ?_)
 ·refine Zk ?_
  obtain ⟨bB, cd⟩ := Zv.1 ce
  have c3 := (bF.frS O aS)
  refine ZJ (fun n α aF => ∃ (e : Int), ∃ (au : List (Int × Int × Int × Int)), ∃ (bd : Value), ∃ (ax : Fp), ZN (fun zz_ => ZaO Arcs ad zz_.1 zz_.2) n (e, au) = some bD /\ Has α [(1, i_ ad), (4, pt_ aH 0), (5, pt_ Y 0), (19, ap), (20, i_ (Arcs.length : Int)), (21, i_ e)] /\ FrS [Y] aD aF /\ Ow Zr 4 aF bd au ax /\ Row aF Y [.slice V ac aa, bd] /\ Inn [] aD ax) bB ⟨0, [], (.slice none 0 0), [], cd, ha_, (fr_ O.wf), (Ow.nil (by decide)), c3, in_⟩ ?_
  rintro bB α aF ⟨e, au, bd, ax, ca, bq, af, ar, a6, aA⟩ dt bv
  obtain ⟨bA, df, rfl, az, a1⟩ := Zx ca
  obtain ⟨β, rfl⟩ := Zh bq
  clear bq
  replace az : ZaO Arcs ad e au = some df := az
  unfold ZaO at az
  obtain ⟨aP, a7, aR, rfl⟩ := ar.form
  refine sq_ fun cf => g_' (q_ (.bool (decide (e < (Arcs.length : Int)))) (Za (cf _ _ (sq_ fun cg => ?_))))
  refine wc_ (e < (Arcs.length : Int)) (fun ay => ?_) fun ay => ?_
  ·have cL := Ze ay az
   refine Zf (cg _ _ (sq_ fun bw => Zk (sq_ fun ch => g_' ?_)))
   obtain ⟨bl, cM⟩ := Zb cL
   have bI := (bM.fr af bj)
   refine bI.ix_ 31 bl ay (le_ 73 0 (.agg #[i_ ((gt Arcs e).1), i_ ((gt Arcs e).2.1), .int .u64 ((gt Arcs e).2.2.1), i_ ((gt Arcs e).2.2.2)]) bI bl ay ?_)
   refine rk_ af.wf [i_ 0, i_ 0, .int .u64 0, i_ 0] fun aQ dg ah an cN => ?_
   obtain ⟨bN, cE, ai, ba⟩ := ra_ 73 0 ah.wf cN [i_ ((gt Arcs e).1), i_ ((gt Arcs e).2.1), .int .u64 ((gt Arcs e).2.2.1), i_ ((gt Arcs e).2.2.2)] [i_ ((gt Arcs e).1), i_ ((gt Arcs e).2.1), .int .u64 ((gt Arcs e).2.2.1), i_ ((gt Arcs e).2.2.2)]
   refine ek_ cE (Za (ch _ _ (sq_ fun cj => ?_)))
   obtain ⟨bC, bu, bE⟩ := bs_ cM
   refine ZC (fun α bf => Has α [(1, i_ ad), (4, pt_ aH 0), (5, pt_ Y 0), (7, pt_ aQ 0), (19, ap), (20, i_ (Arcs.length : Int)), (21, i_ e), (34, .bool bC)] /\ bN = bf) (fun _ bx => ?_) (fun α bf hM => ?_)
   ·refine g_' (q_ (pt_ aQ 0) (lr_ 3 0 (i_ ((gt Arcs e).1)) ba (q_ (i_ ad) ?_)))
    refine Zjp (((gt Arcs e).1) = ad) (by kernel_rfl) (fun aX => ?_) (fun aX => ?_)
    ·have cO := Ze aX bu
     refine q_ (.bool false) (n_' (n_' (n_' (n_' (q_ (.bool false) (Za ?_))))))
     obtain rfl := oi_ cO
     exact bx _ _ ⟨ha_, rfl⟩
    have cP := Zi aX bu
    refine q_ (.bool true) (q_ (pt_ aQ 1) (lr_ 3 1 (i_ ((gt Arcs e).2.1)) ba (q_ (i_ ad) (q_ (.bool (!decide (((gt Arcs e).2.1) = ad))) (q_ (.bool (!decide (((gt Arcs e).2.1) = ad))) (Za ?_))))))
    obtain rfl := oi_ cP
    exact bx _ _ ⟨ha_, rfl⟩
   obtain ⟨bo, rfl⟩ := hM
   obtain ⟨β, rfl⟩ := Zh bo
   clear bo
   refine cj _ _ ?_
   refine wb_ (bC) (fun aY => ?_) fun aY => ?_
   ·have cQ := Ze aY bE
    refine g_' (q_ (pt_ Y 1) ?_)
    have cv := (t_ (t_ (t_ ab.n U.n) O.n) af.n)
    have bP := (an.djn (ak.ltF.le cv))
    have bJ := ((a6.ext ah).frS ai bP)
    refine lr_ 31 1 (.slice aP a7 aR) bJ (lr_ 73 0 (.agg #[i_ ((gt Arcs e).1), i_ ((gt Arcs e).2.1), .int .u64 ((gt Arcs e).2.2.1), i_ ((gt Arcs e).2.2.2)]) ba ?_)
    refine Zb9 (enc := Zr) (sz := 4) ai.wf [((gt Arcs e).1, (gt Arcs e).2.1, (gt Arcs e).2.2.1, (gt Arcs e).2.2.2)] 1 (by decide) (fun _ _ => rfl) (fun _ _ => rfl) rfl (by kernel_rfl) fun dA dw di am dy br => ?_
    obtain ⟨du, dz, dv, rfl⟩ := br.form
    have c4 := (((ar.ext ah).fr ai (an.djn ar.lt)).ext am)
    obtain ⟨b6, cR⟩ := Zb cQ
    obtain ⟨dB, dk, bX, cF, aT, bs, bn⟩ := Ow.append (P := Try.prog) 32 am.wf c4 br.sq (fun _ _ => rfl) (at_ := #[31, 31]) rfl rfl (by kernel_rfl) (by kernel_rfl) (by decide) (by have := b6; first | omega | (simp only [List.length_cons, List.length_nil] at this ⊢; omega) | (simp at this ⊢; omega))
    obtain ⟨aG, aO, aI, rfl⟩ := bs.form
    refine ZaY (.slice aG aO aI) (by kernel_rfl) (cF) ?_
    refine q_ (pt_ Y 1) ?_
    have cw := (t_ (t_ ab.n U.n) O.n)
    have bh := (aA.djn (ak.ltF.le cw))
    have c5 := ((bJ.ext am).frS aT bh)
    obtain ⟨dm, cG, bk, cS⟩ := rb_ 31 1 aT.wf c5 (.slice aG aO aI) [.slice V ac aa, .slice aG aO aI]
    refine ek_ cG (Za (bw _ _ (g_' ?_)))
    obtain ⟨b7, cT⟩ := Zb cR
    refine w_' ((e + 1)) (Zo (by have := b7; omega)) (q_ (i_ (e + 1)) (Za ?_))
    have cx := (t_ (t_ (t_ (t_ (t_ (t_ ab.n U.n) O.n) af.n) ah.n) ai.n) am.n)
    have bQ := (bn.dj bh (ak.ltF.le cx))
    have c6 := (bs.fr bk (Dj.symm bQ))
    have cy := (t_ (t_ (t_ af.n ah.n) ai.n) am.n)
    obtain rfl := oi_ cT
    exact bv bA _ _ lt_ ⟨(e + 1), (au ++ [((gt Arcs e).1, (gt Arcs e).2.1, (gt Arcs e).2.2.1, (gt Arcs e).2.2.2)]), (.slice aG aO aI), bX, a1, ha_, (fs_ O.wf (fs_ O.wf ((fs_ O.wf ((fs_ O.wf (fr_ O.wf) af ir_).extR ah) ai (an.fresh af.n)).extR am) aT (aA.fresh (Nat.le_refl _))) bk ir_), c6, cS, (Inn.trans (aA.fresh (Nat.le_refl _)) cy bn)⟩
   have cU := ZK aY bE
   refine Zf (bw _ _ (g_' ?_))
   obtain ⟨b8, cV⟩ := Zb cU
   refine w_' ((e + 1)) (Zo (by have := b8; omega)) (q_ (i_ (e + 1)) (Za ?_))
   have c7 := ((ar.ext ah).fr ai (an.djn ar.lt))
   have cz := (t_ (t_ (t_ ab.n U.n) O.n) af.n)
   have bR := (an.djn (ak.ltF.le cz))
   have c8 := ((a6.ext ah).frS ai bR)
   obtain rfl := oi_ cV
   exact bv bA _ _ lt_ ⟨(e + 1), au, (.slice aP a7 aR), ax, a1, ha_, (fs_ O.wf ((fs_ O.wf (fr_ O.wf) af ir_).extR ah) ai (an.fresh af.n)), c7, c8, (aA.fresh (Nat.le_refl _))⟩
  have cW := Zi ay az
  refine ZL (Zj (Zj (ZV ?_)))
  obtain rfl := oi_ cW
  obtain rfl := ZG a1
  exact cr _ _ ⟨(.slice aP a7 aR), ax, ha_, (fs_ O.wf (fr_ O.wf) af ir_), ar, a6, (aA.fresh (Nat.le_refl _))⟩
 obtain ⟨bc, aK, bp, aJ, bz, cu, a2⟩ := hM
 obtain ⟨β, rfl⟩ := Zh bp
 clear bp
 obtain ⟨av, aB, aw, rfl⟩ := bz.form
 refine cp _ _ (sq_ fun ck => g_' (lr_ 33 0 (.agg #[.slice V ac aa, .slice av aB aw]) cu ?_))
 have bi := (aq.djn (aC.ltF.le ae.n))
 have c9 := (((((aC.ext ae).frS ab dn_).frS U (ao.djn aC.ltF)).frS O bi).frS aJ (ao.djn aC.ltF))
 have c_ := (cc.fr aJ (Dj.symm aS))
 obtain ⟨bO, cH, aU, cX⟩ := ra_ 33 0 aJ.wf c9 [.slice V ac aa, .slice av aB aw] [.slice V ac aa, .slice av aB aw]
 refine ek_ cH (Za (ck _ _ ?_))
 refine Zg ?_
 refine Zan (vs := [.agg #[.slice V ac aa, .slice av aB aw]]) (ZQ (Eq.trans (b := aL_ 33 (pt_ aH 0) bO) (by kernel_rfl) (cX.l_)) (rfl)) ?_
 have da := (c_.fr aU (Dj.symm bi))
 have cA := (t_ (t_ (t_ ae.n ab.n) U.n) O.n)
 have bS := (a2.djn (aC.ltF.le cA))
 have db := (bz.fr aU (Dj.symm bS))
 have cB := (t_ (t_ (t_ (t_ (t_ aj.n ag.n) ae.n) ab.n) U.n) O.n)
 have cC := (t_ U.n O.n)
 have bT := (a2.djn (aZ.lt.le cC))
 obtain rfl := oi_ c0
 exact ⟨(.slice V ac aa), bY, (.slice av aB aw), aK, rfl, (fs_ al (fs_ al (fs_ al (fs_ al (fs_ al ((((f0_ al).extR aj).extR ag).extR ae) ab in_) U (ao.fresh a8)) O (aq.fresh a_)) aJ (ao.fresh a8)) aU (b_.fresh aj.n)), da, db, (aq.fresh a_), (a2.fresh cB), (Dj.symm bT)⟩
end Go.Vd
