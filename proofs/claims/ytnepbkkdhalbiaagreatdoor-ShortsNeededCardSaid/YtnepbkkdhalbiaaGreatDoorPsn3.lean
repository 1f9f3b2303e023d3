/- The walks of the functions (printed by a program of ours). -/
import Derived.Test.YtnepbkkdhalbiaaGreatDoorPsn2
import Derived.Test.YtnepbkkdhalbiaaGreatDoorPsnISn
import Derived.Test.YtnepbkkdhalbiaaGreatDoorPsnVeN
import Derived.Test.YtnepbkkdhalbiaaGreatDoorPsnSoA
import Derived.Test.YtnepbkkdhalbiaaGreatDoorPsnVeV
set_option linter.unusedVariables false
set_option linter.unusedSimpArgs false
set_option linter.unusedSectionVars false
/-! (KSn0) -/

set_option maxRecDepth 100000
set_option maxHeartbeats 4000000
set_option linter.unusedVariables false
namespace Go.Vd
open Go.Proofs
attribute [local irreducible] Zp Zr aWp
set_option linter.unusedSimpArgs false
theorem Zdd {α : Type} (P : Program) (a : α) : pr P (pure a : Sem α) = some a := rfl
theorem Zlj {P : Program} : pr P (program : Sem Program) = some P := rfl
theorem ZiS {P : Program} {t : TypeId} {d : TypeDesc} (h : P.underlying t = some d) : pr P (underlying t) = some d := by
  simp only [underlying, Z8]
  show ((pr P (program : Sem Program)).bind _) = _
  simp [show pr P (program : Sem Program) = some P from rfl, h]
  rfl
theorem ZhC {P : Program} (d : Nat) (t : TypeId) (k : IntKind) (h : P.underlying t = some (.int k)) (a c : Int) : pr P (Op.equalIn (d+1) t (.int k a) (.int k c)) = some (a == c) := by
  simp only [Op.equalIn, Z8, ZiS h]
  simp [Zdd]
theorem e_bool {P : Program} (d : Nat) (t : TypeId) (h : P.underlying t = some .bool) (a c : Bool) : pr P (Op.equalIn (d+1) t (.bool a) (.bool c)) = some (a == c) := by
  simp only [Op.equalIn, Z8, ZiS h]
  simp [Zdd]
theorem ZgH (a0 : Int) (e : Int) (D : Int) : pr Tryz.prog (part 3 #[i_ a0, i_ e, .int .u64 D] 0) = some (i_ a0) := by kernel_rfl
theorem Zgq (a c : Int) : pr Tryz.prog (Op.equalIn 9999 3 (i_ a) (i_ c)) = some (a == c) := ZhC 9998 3 .i64 Go.Proofs.Tryz.underlying3 a c
theorem Zgv (a0 : Int) (e : Int) (D : Int) : pr Tryz.prog (part 3 #[i_ a0, i_ e, .int .u64 D] 1) = some (i_ e) := by kernel_rfl
theorem ZgO (a c : Int) : pr Tryz.prog (Op.equalIn 9999 3 (i_ a) (i_ c)) = some (a == c) := ZhC 9998 3 .i64 Go.Proofs.Tryz.underlying3 a c
theorem Zgr (a0 : Int) (D : Int) (e : Int) : pr Tryz.prog (part 27 #[i_ a0, i_ D, .int .u64 e] 2) = some (.int .u64 e) := by kernel_rfl
theorem Zgy (a c : Int) : pr Tryz.prog (Op.equalIn 9999 27 (.int .u64 a) (.int .u64 c)) = some (a == c) := ZhC 9998 27 .u64 Go.Proofs.Tryz.underlying27 a c
theorem Zlc : Tryz.prog.stoodInHeld 72 = false := by kernel_rfl
theorem ZlC (a0 : Int) (e : Int) (D : Int) (O : Int) (c1 : Int) (c2 : Int) : pr Tryz.prog (Op.equalIn Op.maxDepth 72 (.agg #[i_ a0, i_ e, .int .u64 D]) (.agg #[i_ O, i_ c1, .int .u64 c2])) = some (a0 == O && e == c1 && D == c2) := by
  rw [show Op.maxDepth = 9998 + 1 + 1 from rfl, Op.equalIn]
  rw [Z8, ZiS Go.Proofs.Tryz.underlying72]
  simp only [Option.bind_some, Z8, Zlj, Zlc, Bool.false_eq_true, if_false]
  simp [Z8, ZgH, Zgv, Zgr, Zgq, ZgO, Zgy]
  by_cases U : a0 = O
  · subst U
    by_cases V : e = c1
    · subst V
      by_cases Y : D = c2
      · subst Y
        simp [Zdd, Z8, ZgH, Zgv, Zgr, Zgq, ZgO, Zgy]
      · simp [Zdd, Z8, ZgH, Zgv, Zgr, Zgq, ZgO, Zgy, Y]
    · simp [Zdd, Z8, ZgH, Zgv, Zgr, Zgq, ZgO, Zgy, V]
  · simp [Zdd, Z8, ZgH, Zgv, Zgr, Zgq, ZgO, Zgy, U]
theorem Zms (x y : Operand) (a0 : Int) (e : Int) (D : Int) (O : Int) (c1 : Int) (c2 : Int) : pr Tryz.prog (eqGuard .neq 72 x y (.agg #[i_ a0, i_ e, .int .u64 D]) (.agg #[i_ O, i_ c1, .int .u64 c2])) = some () := by kernel_rfl
theorem ZkJ (x y : Operand) (a0 : Int) (e : Int) (D : Int) (O : Int) (c1 : Int) (c2 : Int) : Zb1 Tryz.prog .neq 72 x y (.agg #[i_ a0, i_ e, .int .u64 D]) (.agg #[i_ O, i_ c1, .int .u64 c2]) = some (.bool (!decide (a0 = O /\ e = c1 /\ D = c2))) := by
  unfold Zb1
  rw [if_pos (show (plain (.agg #[i_ a0, i_ e, .int .u64 D]) && plain (.agg #[i_ O, i_ c1, .int .u64 c2])) = true from rfl), Z8, Zms]
  have : pr Tryz.prog (binOp .neq 72 (.agg #[i_ a0, i_ e, .int .u64 D]) (.agg #[i_ O, i_ c1, .int .u64 c2])) = some (.bool (!decide (a0 = O /\ e = c1 /\ D = c2))) := by
    simp only [binOp, Op.equal, Z8, ZlC]
    by_cases U : a0 = O <;> by_cases V : e = c1 <;> by_cases Y : D = c2 <;> simp [Zdd, U, V, Y]
  simp only [Option.bind_some, this]
  rfl
theorem Zmz (x y : Operand) (a0 : Int) (e : Int) (D : Int) (O : Int) (c1 : Int) (c2 : Int) : pr Tryz.prog (eqGuard .eql 72 x y (.agg #[i_ a0, i_ e, .int .u64 D]) (.agg #[i_ O, i_ c1, .int .u64 c2])) = some () := by kernel_rfl
theorem Zok (x y : Operand) (a0 : Int) (e : Int) (D : Int) (O : Int) (c1 : Int) (c2 : Int) : Zb1 Tryz.prog .eql 72 x y (.agg #[i_ a0, i_ e, .int .u64 D]) (.agg #[i_ O, i_ c1, .int .u64 c2]) = some (.bool (decide (a0 = O /\ e = c1 /\ D = c2))) := by
  unfold Zb1
  rw [if_pos (show (plain (.agg #[i_ a0, i_ e, .int .u64 D]) && plain (.agg #[i_ O, i_ c1, .int .u64 c2])) = true from rfl), Z8, Zmz]
  have : pr Tryz.prog (binOp .eql 72 (.agg #[i_ a0, i_ e, .int .u64 D]) (.agg #[i_ O, i_ c1, .int .u64 c2])) = some (.bool (decide (a0 = O /\ e = c1 /\ D = c2))) := by
    simp only [binOp, Op.equal, Z8, ZlC]
    by_cases U : a0 = O <;> by_cases V : e = c1 <;> by_cases Y : D = c2 <;> simp [Zdd, U, V, Y]
  simp only [Option.bind_some, this]
  rfl
theorem Zg2 (a0 : Int) (e : Int) : pr Tryz.prog (part 101 #[i_ a0, i_ e] 0) = some (i_ a0) := by kernel_rfl
theorem ZgW (a c : Int) : pr Tryz.prog (Op.equalIn 9999 101 (i_ a) (i_ c)) = some (a == c) := ZhC 9998 101 .i64 Go.Proofs.Tryz.underlying101 a c
theorem Zg6 (a0 : Int) (e : Int) : pr Tryz.prog (part 3 #[i_ a0, i_ e] 1) = some (i_ e) := by kernel_rfl
theorem Zg4 (a c : Int) : pr Tryz.prog (Op.equalIn 9999 3 (i_ a) (i_ c)) = some (a == c) := ZhC 9998 3 .i64 Go.Proofs.Tryz.underlying3 a c
theorem ZkF : Tryz.prog.stoodInHeld 115 = false := by kernel_rfl
theorem Zkd (a0 : Int) (e : Int) (D : Int) (c1 : Int) : pr Tryz.prog (Op.equalIn Op.maxDepth 115 (.agg #[i_ a0, i_ e]) (.agg #[i_ D, i_ c1])) = some (a0 == D && e == c1) := by
  rw [show Op.maxDepth = 9998 + 1 + 1 from rfl, Op.equalIn]
  rw [Z8, ZiS Go.Proofs.Tryz.underlying115]
  simp only [Option.bind_some, Z8, Zlj, ZkF, Bool.false_eq_true, if_false]
  simp [Z8, Zg2, Zg6, ZgW, Zg4]
  by_cases O : a0 = D
  · subst O
    by_cases U : e = c1
    · subst U
      simp [Zdd, Z8, Zg2, Zg6, ZgW, Zg4]
    · simp [Zdd, Z8, Zg2, Zg6, ZgW, Zg4, U]
  · simp [Zdd, Z8, Zg2, Zg6, ZgW, Zg4, O]
theorem Zlk (x y : Operand) (a0 : Int) (e : Int) (D : Int) (c1 : Int) : pr Tryz.prog (eqGuard .neq 115 x y (.agg #[i_ a0, i_ e]) (.agg #[i_ D, i_ c1])) = some () := by kernel_rfl
theorem Zj2 (x y : Operand) (a0 : Int) (e : Int) (D : Int) (c1 : Int) : Zb1 Tryz.prog .neq 115 x y (.agg #[i_ a0, i_ e]) (.agg #[i_ D, i_ c1]) = some (.bool (!decide (a0 = D /\ e = c1))) := by
  unfold Zb1
  rw [if_pos (show (plain (.agg #[i_ a0, i_ e]) && plain (.agg #[i_ D, i_ c1])) = true from rfl), Z8, Zlk]
  have : pr Tryz.prog (binOp .neq 115 (.agg #[i_ a0, i_ e]) (.agg #[i_ D, i_ c1])) = some (.bool (!decide (a0 = D /\ e = c1))) := by
    simp only [binOp, Op.equal, Z8, Zkd]
    by_cases O : a0 = D <;> by_cases U : e = c1 <;> simp [Zdd, O, U]
  simp only [Option.bind_some, this]
  rfl
theorem Zl0 (x y : Operand) (a0 : Int) (e : Int) (D : Int) (c1 : Int) : pr Tryz.prog (eqGuard .eql 115 x y (.agg #[i_ a0, i_ e]) (.agg #[i_ D, i_ c1])) = some () := by kernel_rfl
theorem Zoj (x y : Operand) (a0 : Int) (e : Int) (D : Int) (c1 : Int) : Zb1 Tryz.prog .eql 115 x y (.agg #[i_ a0, i_ e]) (.agg #[i_ D, i_ c1]) = some (.bool (decide (a0 = D /\ e = c1))) := by
  unfold Zb1
  rw [if_pos (show (plain (.agg #[i_ a0, i_ e]) && plain (.agg #[i_ D, i_ c1])) = true from rfl), Z8, Zl0]
  have : pr Tryz.prog (binOp .eql 115 (.agg #[i_ a0, i_ e]) (.agg #[i_ D, i_ c1])) = some (.bool (decide (a0 = D /\ e = c1))) := by
    simp only [binOp, Op.equal, Z8, Zkd]
    by_cases O : a0 = D <;> by_cases U : e = c1 <;> simp [Zdd, O, U]
  simp only [Option.bind_some, this]
  rfl
theorem Zgf {H : AH} {r : List (Int × Int × Int)}
    (Y : WF H) (ad : ZcW = some r) :
    ACalls Tryz.prog 27 #[] H fun v H' => ∃ (af : Value) (aa : Fp), v = .agg #[i_ 4, af] /\ FrS [] H H' /\ Ow Zq 3 H' af r aa /\ Inn [] H aa := by
 refine ab_ Tryz.func27 ?_
 unfold ZcW at ad
 refine sq_ fun al => g_' ?_
 refine rk_ Y [i_ 0, .slice none 0 0] fun ah ar V aj ae => ?_
 refine Za (al _ _ (sq_ fun ak => g_' (q_ (.agg #[i_ 0, i_ 1, i_ 4]) (q_ (.agg #[i_ 1, i_ 2, i_ 1]) (q_ (.agg #[i_ 0, i_ 2, i_ 9]) (q_ (.agg #[i_ 2, i_ 3, i_ 2]) ?_))))))
 refine Zbl (enc := Zq) (sz := 3) V.wf [(0, 1, 4), (1, 2, 1), (0, 2, 9), (2, 3, 2)] 4 (by decide) (fun _ _ => rfl) (fun _ _ => rfl) rfl (by kernel_rfl) fun au f15 aq U ab ac => ?_
 obtain ⟨e, O, D, rfl⟩ := ac.form
 refine q_ (.agg #[i_ 4, .slice e O D]) ?_
 have ao := (ae.ext U)
 obtain ⟨ag, am, Z, an⟩ := ra_ 24 0 U.wf ao [i_ 4, .slice e O D] [i_ 4, .slice e O D]
 refine ek_ am (Za (ak _ _ ?_))
 refine Zg ?_
 refine Z3 (vs := [.agg #[i_ 4, .slice e O D]]) (ZM (Eq.trans (b := aL_ 24 (pt_ ah 0) ag) (by kernel_rfl) (an.l_)) (rfl)) ?_
 have ai := (ab.djn ae.ltF)
 have ap := (ac.fr Z (Dj.symm ai))
 obtain rfl := oi_ ad
 exact ⟨(.slice e O D), f15, rfl, (fs_ Y (((f0_ Y).extR V).extR U) Z (aj.fresh (Nat.le_refl _))), ap, (ab.fresh V.n)⟩
theorem ZfP {H : AH} {x : Int} {e : Int} {r : Bool}
    (Y : WF H) (O : Zdf x e = some r) :
    ACalls Tryz.prog 106 #[i_ x, i_ e] H fun v H' => v = .bool r /\ H = H' := by
 refine ab_ Tryz.func106 ?_
 unfold Zdf at O
 refine sq_ fun k1 => g_' (q_ (.bool false) (Za (k1 _ _ (sq_ fun k2 => g_' (q_ (i_ x) ?_)))))
 refine sb_ (x ≥ 0) (fun D => ?_) fun D => ?_
 ·have U := Ze D O
  refine q_ (.bool true) (q_ (i_ x) (q_ (i_ e) (q_ (.bool (decide (x < e))) (q_ (.bool (decide (x < e))) (q_ (.bool (decide (x < e))) (Za (k2 _ _ ?_)))))))
  refine Zg ?_
  refine br_ [.bool (decide (x < e))] ?_
  obtain rfl := oi_ U
  exact ⟨rfl, rfl⟩
 have V := Zi D O
 refine q_ (.bool false) (n_' (n_' (n_' (q_ (.bool false) (q_ (.bool false) (Za (k2 _ _ ?_)))))))
 refine Zg ?_
 refine br_ [.bool false] ?_
 obtain rfl := oi_ V
 exact ⟨rfl, rfl⟩
theorem Zj5 {H : AH} {V : Int} {Y : Int} {e : Int} {aa : Int} {r : Er}
    (U : WF H) (aj : Zd1 V Y e aa = some r) :
    ACalls Tryz.prog 94 #[.agg #[i_ V, i_ Y, i_ e], i_ aa] H fun v H' => ∃ (v3 : Value) (ah : Fp), v = v3 /\ FrS [] H H' /\ Ev 78 116 H' v3 r ah /\ Inn [] H ah := by
 refine ab_ Tryz.func94 ?_
 unfold Zd1 at aj
 refine sq_ fun aD => g_' ?_
 refine rl_ U [i_ V, i_ Y, i_ e] fun O ar D aM ab => ?_
 refine q_ (.nilIface) (Za (aD _ _ (sq_ fun ax => Zm (sq_ fun ay => ?_))))
 obtain ⟨am, au, an⟩ := bs_ aj
 refine ZC (fun α ag => Has α [(2, pt_ O 0), (5, .bool am)] /\ ar = ag) (fun _ ak => ?_) (fun α ag hM => ?_)
 ·refine g_' (q_ (pt_ O 0) (lr_ 3 0 (i_ V) ab (q_ (i_ aa) ?_)))
  obtain ⟨aL, av, ao⟩ := bs_ au
  refine ck_ (ZfP D.wf av) ?_
  rintro _ _ ⟨rfl, rfl⟩
  by_cases Z : aL = true
  ·have aE := Ze Z ao
   rw [Z]
   refine q_ (.bool false) (q_ (.bool false) (q_ (pt_ O 1) (lr_ 3 1 (i_ Y) ab (q_ (i_ aa) ?_))))
   obtain ⟨af, aw, aF⟩ := bs_ aE
   refine ck_ (ZfP D.wf aw) ?_
   rintro _ _ ⟨rfl, rfl⟩
   refine q_ (.bool (!af)) (q_ (.bool (!af)) (q_ (.bool (!af)) (Za ?_)))
   obtain rfl := oi_ aF
   exact ak _ _ ⟨ha_, rfl⟩
  have aG := Zi Z ao
  rw [nb Z]
  refine q_ (.bool true) (q_ (.bool true) (n_' (n_' (n_' (n_' (n_' (q_ (.bool true) (q_ (.bool true) (Za ?_)))))))))
  obtain rfl := oi_ aG
  exact ak _ _ ⟨ha_, rfl⟩
 obtain ⟨ai, rfl⟩ := hM
 obtain ⟨β, rfl⟩ := Zk ai
 clear ai
 refine ay _ _ ?_
 refine wb_ (am) (fun ac => ?_) fun ac => ?_
 ·have aH := Ze ac an
  refine sq_ fun az => g_' (q_ (.iface 78 (i_ 7)) (q_ (.iface 78 (i_ 7)) (Za (az _ _ ?_))))
  refine Zg (ZN (Zh ?_))
  refine br_ [.iface 78 (i_ 7)] ?_
  obtain rfl := oi_ aH
  exact ⟨(.iface 78 (i_ 7)), [], rfl, ((f0_ U).extR D), Ev.no, in_⟩
 have ap := ZL ac an
 refine sq_ fun al => g_' (q_ (pt_ O 2) (lr_ 3 2 (i_ e) ab ?_))
 refine sb_ (e < 0) (fun ad => ?_) fun ad => ?_
 ·have aI := Ze ad ap
  refine q_ (.bool true) (n_' (n_' (n_' (q_ (.bool true) (q_ (.bool true) (Za (al _ _ ?_)))))))
  refine wb_ true (fun _ => ?_) fun h => by cases h
  refine sq_ fun aA => g_' (q_ (.iface 78 (i_ 8)) (q_ (.iface 78 (i_ 8)) (Za (aA _ _ ?_))))
  refine Zg (ZN (Zh ?_))
  refine br_ [.iface 78 (i_ 8)] ?_
  obtain rfl := oi_ aI
  exact ⟨(.iface 78 (i_ 8)), [], rfl, ((f0_ U).extR D), Ev.no, in_⟩
 have aq := Zi ad ap
 refine q_ (.bool false) (q_ (pt_ O 2) (lr_ 3 2 (i_ e) ab (q_ (.bool (decide (e > 2147483647))) (q_ (.bool (decide (e > 2147483647))) (q_ (.bool (decide (e > 2147483647))) (Za (al _ _ ?_)))))))
 refine wc_ (e > 2147483647) (fun ae => ?_) fun ae => ?_
 ·have aJ := Ze ae aq
  refine sq_ fun aB => g_' (q_ (.iface 78 (i_ 8)) (q_ (.iface 78 (i_ 8)) (Za (aB _ _ ?_))))
  refine Zg (ZN (Zh ?_))
  refine br_ [.iface 78 (i_ 8)] ?_
  obtain rfl := oi_ aJ
  exact ⟨(.iface 78 (i_ 8)), [], rfl, ((f0_ U).extR D), Ev.no, in_⟩
 have aK := Zi ae aq
 refine Zf (ax _ _ (sq_ fun aC => g_' (q_ (.nilIface) (Za (aC _ _ ?_)))))
 refine Zg ?_
 refine br_ [.nilIface] ?_
 obtain rfl := oi_ aK
 exact ⟨(.nilIface), [], rfl, ((f0_ U).extR D), Ev.nil, in_⟩
theorem ZhY {H : AH} {V : Value} {ae : Fp} {e : Int} {at_ : Int} {ac : Er} {r : Er}
    (aa : WF H) (af : Ev 78 116 H V ac ae) (Z : Zdr e at_ ac = some r) :
    ACalls Tryz.prog 43 #[i_ e, i_ at_, V] H fun v H' => ∃ (v3 : Value) (ad : Fp), v = v3 /\ FrS [] H H' /\ Ev 78 116 H' v3 r ad /\ Inn ae H ad := by
 refine ab_ Tryz.func43 ?_
 unfold Zdr at Z
 refine sq_ fun an => g_' (q_ (.nilIface) (Za (an _ _ (sq_ fun ao => sq_ fun ag => g_' (q_ (V) ?_)))))
 rcases (af).cases with ⟨Y, rfl⟩ | ⟨Y, O, U, rfl⟩
 ·have ap := Ze Y Z
  refine q_ (.bool true) (Za (ag _ _ ?_))
  refine wb_ true (fun _ => ?_) fun h => by cases h
  refine sq_ fun al => g_' (q_ (.nilIface) (Za (al _ _ ?_)))
  refine Zg (Zh ?_)
  refine br_ [.nilIface] ?_
  obtain rfl := oi_ ap
  exact ⟨(.nilIface), [], rfl, (f0_ aa), Ev.nil, in_⟩
 have aq := Zi Y Z
 refine l_' (.bool false) (Zb1 Tryz.prog .eql 38 (.tmp 7) (.const .nilIface) (.iface O U) .nilIface) (ZeY (by kernel_rfl)) (Za (ag _ _ ?_))
 refine wb_ false (fun h => by cases h) fun _ => ?_
 refine Zf (ao _ _ (sq_ fun am => g_' (q_ (i_ e) (q_ (i_ at_) (q_ (.agg #[i_ e, i_ at_]) (q_ (.iface O U) (q_ (.agg #[i_ e, i_ at_, .iface O U]) ?_)))))))
 refine rl_ aa [i_ e, i_ at_, .iface O U] fun D av ab ai ar => ?_
 have au := (af.ext ab)
 obtain ⟨ah, aj, ak⟩ := Ev.at ar au ai
 refine q_ (.iface 116 (pt_ D 0)) (q_ (.iface 116 (pt_ D 0)) (Za (am _ _ ?_)))
 refine Zg ?_
 refine br_ [.iface 116 (pt_ D 0)] ?_
 obtain rfl := oi_ aq
 exact ⟨(.iface 116 (pt_ D 0)), ah, rfl, ((f0_ aa).extR ab), aj, (Inn.trans ir_ (Nat.le_refl _) ak)⟩
theorem ZiN {H : AH} {ab : Value} {aV : Fp} {U : Int} {Arcs : List (Int × Int × Int)} {r : Er}
    (V : WF H) (al : Sq Zq 3 H ab Arcs aV) (aA : Zdu U Arcs = some r) :
    ACalls Tryz.prog 79 #[.agg #[i_ U, ab]] H fun v H' => ∃ (v3 : Value) (av : Fp), v = v3 /\ FrS [] H H' /\ Ev 78 116 H' v3 r av /\ Inn [] H av := by
 refine ab_ Tryz.func79 ?_
 unfold Zdu at aA
 refine sq_ fun bl => g_' ?_
 refine ZaG V [i_ U, ab] (Zs (rfl) (Zs (al.one1) (Z1))) (by kernel_rfl) fun Y ag D bV ac => ?_
 refine q_ (.nilIface) (Za (bl _ _ (sq_ fun bb => sq_ fun bc => ?_)))
 obtain ⟨aG, aC, aI⟩ := bs_ aA
 refine ZC (fun α aq => Has α [(1, pt_ Y 0), (19, .bool aG)] /\ ag = aq) (fun _ ao => ?_) (fun α aq hM => ?_)
 ·refine g_' (q_ (pt_ Y 0) (lr_ 3 0 (i_ U) ac ?_))
  refine sb_ (U < 0) (fun ah => ?_) fun ah => ?_
  ·have bx := Ze ah aC
   refine q_ (.bool true) (n_' (n_' (n_' (q_ (.bool true) (q_ (.bool true) (n_' (n_' (n_' (n_' (q_ (.bool true) (Za ?_)))))))))))
   obtain rfl := oi_ bx
   exact ao _ _ ⟨ha_, rfl⟩
  have aJ := Zi ah aC
  refine q_ (.bool false) (q_ (pt_ Y 0) (lr_ 3 0 (i_ U) ac ?_))
  refine sb_ (U > 65536) (fun ai => ?_) fun ai => ?_
  ·have bz := Ze ai aJ
   refine q_ (.bool true) (q_ (.bool true) (n_' (n_' (n_' (n_' (q_ (.bool true) (Za ?_)))))))
   obtain rfl := oi_ bz
   exact ao _ _ ⟨ha_, rfl⟩
  have bA := Zi ai aJ
  refine q_ (.bool false) (q_ (.bool false) (q_ (pt_ Y 1) (lr_ 22 1 (ab) ac ?_)))
  have bL := (al.ext D)
  refine bL.ln_ 22 (q_ (.bool (decide ((Arcs.length : Int) > 262144))) (q_ (.bool (decide ((Arcs.length : Int) > 262144))) (Za ?_)))
  obtain rfl := oi_ bA
  exact ao _ _ ⟨ha_, rfl⟩
 obtain ⟨ax, rfl⟩ := hM
 obtain ⟨β, rfl⟩ := Zk ax
 clear ax
 refine bc _ _ ?_
 refine wb_ (aG) (fun aj => ?_) fun aj => ?_
 ·have bB := Ze aj aI
  refine sq_ fun bd => g_' (q_ (.iface 78 (i_ 9)) (q_ (.iface 78 (i_ 9)) (Za (bd _ _ ?_))))
  refine Zg (Zh ?_)
  refine br_ [.iface 78 (i_ 9)] ?_
  obtain rfl := oi_ bB
  exact ⟨(.iface 78 (i_ 9)), [], rfl, ((f0_ V).extR D), Ev.no, in_⟩
 have bC := ZL aj aI
 refine Zf (bb _ _ (sq_ fun be => sq_ fun bf => g_' (q_ (pt_ Y 1) (lr_ 22 1 (ab) ac ?_))))
 have aN := (al.ext D)
 refine aN.ln_ 22 (q_ (i_ 0) (Za (bf _ _ ?_)))
 obtain ⟨z39, a1, aK⟩ := bs_ bC
 refine ZC (fun α ar => ∃ aH, z39 = Sum.inr aH /\ Has α [] /\ FrS [] ag ar) (fun _ bg => ?_) (fun α ar hM => ?_)
 ·refine Zm ?_
  obtain ⟨aF, aY⟩ := Zu.1 a1
  refine ZJ (fun n α au => ∃ (e : Int), ZR (fun zz_ => ZcU U Arcs zz_) n e = some z39 /\ Has α [(1, pt_ Y 0), (22, ab), (23, i_ (Arcs.length : Int)), (24, i_ e)] /\ FrS [] ag au) aF ⟨0, aY, ha_, (fr_ D.wf)⟩ ?_
  rintro aF α au ⟨e, aX, az, O⟩ bS bh
  obtain ⟨bt, bN, rfl, ae, an⟩ := Zy aX
  obtain ⟨β, rfl⟩ := Zk az
  clear az
  replace ae : ZcU U Arcs e = some bN := ae
  unfold ZcU at ae
  refine sq_ fun bi => g_' (q_ (.bool (decide (e < (Arcs.length : Int)))) (Za (bi _ _ (sq_ fun bj => ?_))))
  refine wc_ (e < (Arcs.length : Int)) (fun ad => ?_) fun ad => ?_
  ·have bD := Ze ad ae
   refine Zf (bj _ _ (sq_ fun bk => Zm (sq_ fun bm => g_' (q_ (i_ e) ?_))))
   obtain ⟨aw, bE⟩ := Zb bD
   have aO := (aN.fr O dn_)
   refine aO.ix_ 22 aw ad (le_ 74 0 (.agg #[i_ ((gt Arcs e).1), i_ ((gt Arcs e).2.1), i_ ((gt Arcs e).2.2)]) aO aw ad ?_)
   refine rk_ O.wf [i_ 0, i_ 0, i_ 0] fun bT bP Z am bF => ?_
   refine q_ (i_ e) ?_
   obtain ⟨bQ, bu, aa, bG⟩ := ra_ 74 0 Z.wf bF [i_ ((gt Arcs e).1), i_ ((gt Arcs e).2.1), i_ ((gt Arcs e).2.2)] [i_ ((gt Arcs e).1), i_ ((gt Arcs e).2.1), i_ ((gt Arcs e).2.2)]
   refine ek_ bu (Za (bm _ _ (sq_ fun bn => g_' (lr_ 74 0 (.agg #[i_ ((gt Arcs e).1), i_ ((gt Arcs e).2.1), i_ ((gt Arcs e).2.2)]) bG (q_ (pt_ Y 0) ?_)))))
   have aR := (am.djn (ac.ltF.le O.n))
   have bM := (((ac.frS O dn_).ext Z).frS aa aR)
   refine lr_ 3 0 (i_ U) bM ?_
   obtain ⟨bX, a2, aL⟩ := bs_ bE
   refine ck_ (Zj5 aa.wf a2) ?_
   rintro aP bR ⟨_, bU, rfl, af, aE, a_⟩
   refine q_ (aP) (Za (bn _ _ (sq_ fun aD => g_' (q_ (aP) ?_))))
   rcases (aE).cases with ⟨ak, rfl⟩ | ⟨ak, aM, aQ, rfl⟩
   ·have bH := Ze ak aL
    refine q_ (.bool false) (Za (aD _ _ ?_))
    refine wb_ false (fun h => by cases h) fun _ => ?_
    refine Zf (bk _ _ (g_' ?_))
    obtain ⟨aW, bI⟩ := Zb bH
    refine w_' ((e + 1)) (Zn (by have := aW; omega)) (q_ (i_ (e + 1)) (Za ?_))
    obtain rfl := oi_ bI
    exact bh bt _ _ lt_ ⟨(e + 1), an, ha_, (fs_ D.wf (fs_ D.wf ((fs_ D.wf (fr_ D.wf) O in_).extR Z) aa (am.fresh O.n)) af in_)⟩
   have bJ := Zi ak aL
   refine l_' (.bool true) (Zb1 Tryz.prog .neq 38 (.tmp 33) (.const .nilIface) (.iface aM aQ) .nilIface) (Zd7 (by kernel_rfl)) (Za (aD _ _ ?_))
   refine wb_ true (fun _ => ?_) fun h => by cases h
   refine sq_ fun bo => g_' (q_ (i_ e) (q_ (.iface aM aQ) ?_))
   obtain ⟨bY, a6, bK⟩ := bs_ bJ
   refine ck_ (ZhY af.wf aE a6) ?_
   rintro ap bO ⟨_, aU, rfl, aS, bp, a8⟩
   refine q_ (ap) (Za (bo _ _ ?_))
   refine Zg (ZN (Zh (Zh (ZN (Zh (Zh ?_))))))
   obtain ⟨bW, aB, a7⟩ := map_some bK
   subst a7
   obtain rfl := Zx an
   have aZ := elim_inl aK
   rw [aZ] at aB
   refine br_ [ap] ?_
   have bq := (t_ D.n O.n)
   have br := (t_ (t_ (t_ D.n O.n) Z.n) aa.n)
   have bs := (t_ (t_ (t_ (t_ D.n O.n) Z.n) aa.n) af.n)
   obtain rfl := oi_ aB
   exact ⟨(ap), aU, rfl, (fs_ V (fs_ V (fs_ V ((fs_ V ((f0_ V).extR D) O in_).extR Z) aa (am.fresh bq)) af in_) aS in_), bp, (Inn.trans (a_.fresh br) bs a8)⟩
  have bv := Zi ad ae
  refine ZK (Zj (Zj (ZV ?_)))
  obtain rfl := oi_ bv
  obtain rfl := Zx an
  exact bg _ _ ⟨_, rfl, trivial, (fs_ D.wf (fr_ D.wf) O in_)⟩
 obtain ⟨aH, rfl, ay, aT⟩ := hM
 have bw := elim_inr aK
 obtain ⟨β, rfl⟩ := Zk ay
 clear ay
 refine be _ _ (sq_ fun ba => g_' (q_ (.nilIface) (Za (ba _ _ ?_))))
 refine Zg ?_
 refine br_ [.nilIface] ?_
 obtain rfl := oi_ bw
 exact ⟨(.nilIface), [], rfl, (fs_ V ((f0_ V).extR D) aT in_), Ev.nil, in_⟩
theorem Zhd {H : AH} {x : Int} {r : Bool}
    (D : WF H) (e : Zd2 x = some r) :
    ACalls Tryz.prog 117 #[i_ x] H fun v H' => v = .bool r /\ H = H' := by
 refine ab_ Tryz.func117 ?_
 unfold Zd2 at e
 refine sq_ fun k1 => g_' (q_ (.bool false) (Za (k1 _ _ (sq_ fun k2 => g_' (q_ (i_ x) (q_ (i_ x) (q_ (.bool (!decide (x = x))) (q_ (.bool (!decide (x = x))) (Za (k2 _ _ ?_))))))))))
 refine Zg ?_
 refine br_ [.bool (!decide (x = x))] ?_
 obtain rfl := oi_ e
 exact ⟨rfl, rfl⟩
theorem ZeF {H : AH} {x : Int} {y : Int} {r : Int}
    (ag : WF H) (aa : Zcy x y = some r) :
    ACalls Tryz.prog 98 #[i_ x, i_ y] H fun v H' => v = i_ r /\ H = H' := by
 refine ab_ Tryz.func98 ?_
 unfold Zcy at aa
 refine sq_ fun k1 => g_' (q_ (i_ 0) (Za (k1 _ _ (sq_ fun k2 => g_' (q_ (i_ x) ?_)))))
 obtain ⟨Z, ai, aI⟩ := bs_ aa
 refine ck_ (Zhd ag ai) ?_
 rintro _ _ ⟨rfl, rfl⟩
 refine q_ (.bool Z) (Za (k2 _ _ (sq_ fun aB => g_' (q_ (i_ y) ?_))))
 obtain ⟨e, ah, ab⟩ := bs_ aI
 refine ck_ (Zhd ag ah) ?_
 rintro _ _ ⟨rfl, rfl⟩
 refine q_ (.bool e) (Za (aB _ _ (sq_ fun aj => sq_ fun ak => g_' (q_ (.bool Z) (Za (ak _ _ ?_))))))
 refine wb_ (Z) (fun D => ?_) fun D => ?_
 ·have ac := Ze D ab
  refine sq_ fun al => sq_ fun am => g_' (q_ (.bool e) (Za (am _ _ ?_)))
  refine wb_ (e) (fun O => ?_) fun O => ?_
  ·have aC := Ze O ac
   refine sq_ fun an => g_' (q_ (i_ 0) (Za (an _ _ ?_)))
   refine Zg (Zh (Zh ?_))
   refine br_ [i_ 0] ?_
   obtain rfl := oi_ aC
   exact ⟨rfl, rfl⟩
  have aD := ZL O ac
  refine Zf (al _ _ (sq_ fun ao => g_' (q_ (i_ (-1)) (Za (ao _ _ ?_)))))
  refine Zg (Zh ?_)
  refine br_ [i_ (-1)] ?_
  obtain rfl := oi_ aD
  exact ⟨rfl, rfl⟩
 have ad := ZL D ab
 refine Zf (aj _ _ (sq_ fun ap => sq_ fun aq => g_' (q_ (.bool e) (Za (aq _ _ ?_)))))
 refine wb_ (e) (fun U => ?_) fun U => ?_
 ·have aE := Ze U ad
  refine sq_ fun ar => g_' (q_ (i_ 1) (Za (ar _ _ ?_)))
  refine Zg (Zh ?_)
  refine br_ [i_ 1] ?_
  obtain rfl := oi_ aE
  exact ⟨rfl, rfl⟩
 have ae := ZL U ad
 refine Zf (ap _ _ (sq_ fun au => sq_ fun av => g_' (q_ (i_ x) (q_ (i_ y) (q_ (.bool (decide (x < y))) (Za (av _ _ ?_)))))))
 refine wc_ (x < y) (fun V => ?_) fun V => ?_
 ·have aF := Ze V ae
  refine sq_ fun aw => g_' (q_ (i_ (-1)) (Za (aw _ _ ?_)))
  refine Zg (Zh ?_)
  refine br_ [i_ (-1)] ?_
  obtain rfl := oi_ aF
  exact ⟨rfl, rfl⟩
 have af := Zi V ae
 refine Zf (au _ _ (sq_ fun ax => sq_ fun ay => g_' (q_ (i_ x) (q_ (i_ y) (q_ (.bool (decide (x > y))) (Za (ay _ _ ?_)))))))
 refine wc_ (x > y) (fun Y => ?_) fun Y => ?_
 ·have aG := Ze Y af
  refine sq_ fun az => g_' (q_ (i_ 1) (Za (az _ _ ?_)))
  refine Zg (Zh ?_)
  refine br_ [i_ 1] ?_
  obtain rfl := oi_ aG
  exact ⟨rfl, rfl⟩
 have aH := Zi Y af
 refine Zf (ax _ _ (sq_ fun aA => g_' (q_ (i_ 0) (Za (aA _ _ ?_)))))
 refine Zg ?_
 refine br_ [i_ 0] ?_
 obtain rfl := oi_ aH
 exact ⟨rfl, rfl⟩
theorem Zml {H : AH} {V : Value} {an : Fp} {D : List (Int)} {r : Int}
    (aQ : WF H) (Z : Sq (Zak .i64) 1 H V D an) (ag : Ze4 D = some r) :
    ACalls Tryz.prog 97 #[V] H fun v H' => v = i_ r /\ H = H' := by
 refine ab_ Tryz.func97 ?_
 unfold Ze4 at ag
 refine sq_ fun k1 => g_' (q_ (i_ 0) (Za (k1 _ _ (sq_ fun k2 => g_' (q_ (i_ 0) (Za (k2 _ _ (sq_ fun k3 => sq_ fun aE => g_' (q_ (V) (Z.ln_ 26 (q_ (i_ 0) (Za (aE _ _ ?_)))))))))))))
 obtain ⟨am, au, al⟩ := bs_ ag
 refine ZC (fun α ac => ∃ aj, am = Sum.inr aj /\ Has α [(3, i_ 0)] /\ H = ac) (fun _ aw => ?_) (fun α ac hM => ?_)
 ·refine Zm ?_
  obtain ⟨ai, aq⟩ := Zu.1 au
  refine ZJ (fun n α ab => ∃ (e : Int), ZR (fun zz_ => ZcK D zz_) n e = some am /\ Has α [(3, i_ 0), (6, V), (7, i_ (D.length : Int)), (8, i_ e)] /\ H = ab) ai ⟨0, aq, ha_, rfl⟩ ?_
  rintro ai α ab ⟨e, ap, af, rfl⟩ aO ax
  obtain ⟨aG, aN, rfl, U, aa⟩ := Zy ap
  obtain ⟨β, rfl⟩ := Zk af
  clear af
  replace U : ZcK D e = some aN := U
  unfold ZcK at U
  refine sq_ fun ay => g_' (q_ (.bool (decide (e < (D.length : Int)))) (Za (ay _ _ (sq_ fun az => ?_))))
  refine wc_ (e < (D.length : Int)) (fun O => ?_) fun O => ?_
  ·have aH := Ze O U
   refine Zf (az _ _ (sq_ fun aA => Zm (sq_ fun aB => g_' ?_)))
   obtain ⟨ad, ak⟩ := Zb aH
   refine Z.ix_ 26 ad O (le_ 3 0 (i_ (gt D e)) Z ad O (q_ (i_ (gt D e)) (Za (aB _ _ (sq_ fun aC => g_' (q_ (i_ (gt D e)) (q_ (i_ 0) (q_ (.bool (!decide ((gt D e) = 0))) (Za (aC _ _ ?_))))))))))
   refine Zde ((gt D e) = 0) (by kernel_rfl) rfl (fun Y => ?_) (fun Y => ?_)
   ·have aI := Zi Y ak
    refine sq_ fun aD => g_' (q_ (i_ (gt D e)) (q_ (i_ (gt D e)) (Za (aD _ _ ?_))))
    refine Zg (ZN (Zh (Zh (ZN (Zh (Zh ?_))))))
    obtain ⟨aP, ah, av⟩ := map_some aI
    subst av
    obtain rfl := Zx aa
    have ar := elim_inl al
    rw [ar] at ah
    refine br_ [i_ (gt D e)] ?_
    obtain rfl := oi_ ah
    exact ⟨rfl, rfl⟩
   have aJ := Ze Y ak
   refine Zf (aA _ _ (g_' ?_))
   obtain ⟨ao, aK⟩ := Zb aJ
   refine w_' ((e + 1)) (Zn (by have := ao; omega)) (q_ (i_ (e + 1)) (Za ?_))
   obtain rfl := oi_ aK
   exact ax aG _ _ lt_ ⟨(e + 1), aa, ha_, rfl⟩
  have aL := Zi O U
  refine ZK (Zj (Zj (ZV ?_)))
  obtain rfl := oi_ aL
  obtain rfl := Zx aa
  exact aw _ _ ⟨_, rfl, ha_, rfl⟩
 obtain ⟨aj, rfl, ae, rfl⟩ := hM
 have aM := elim_inr al
 obtain ⟨β, rfl⟩ := Zk ae
 clear ae
 refine k3 _ _ (sq_ fun aF => g_' (q_ (i_ 0) (q_ (i_ 0) (Za (aF _ _ ?_)))))
 refine Zg ?_
 refine br_ [i_ 0] ?_
 obtain rfl := oi_ aM
 exact ⟨rfl, rfl⟩
theorem Zim {H : AH} {Y : Int} {aa : Int} {ac : Int} {Z : Int} {ab : Int} {ad : Int} {r : Int}
    (ai : WF H) (ah : Zca Y aa ac Z ab ad = some r) :
    ACalls Tryz.prog 81 #[.agg #[i_ Y, i_ aa, i_ ac], .agg #[i_ Z, i_ ab, i_ ad]] H fun v H' => v = i_ r /\ FrS [] H H' := by
 refine ab_ Tryz.func81 ?_
 unfold Zca at ah
 refine sq_ fun k1 => g_' ?_
 refine rl_ ai [i_ Y, i_ aa, i_ ac] fun b2 az af aF av => ?_
 refine rl_ af.wf [i_ Z, i_ ab, i_ ad] fun D e O aE U => ?_
 refine q_ (i_ 0) (Za (k1 _ _ (sq_ fun ao => ?_)))
 refine ZQ [0, 1, 2, 3, 5, 6, 7, 8, 10, 11, 12, 13, 4, 9, 14, 15, 16, 17] (by kernel_rfl) ?_
 refine e_' (pt_ b2 0) ?_
 have V := (av.ext O)
 refine mr_ 3 0 (i_ Y) V (e_' (pt_ D 0) (mr_ 3 0 (i_ Z) U (e_' (pt_ b2 1) ?_)))
 refine Zcb (i_ aa) (x := aL_ 3 (pt_ b2 1) e) (by kernel_rfl) (V.l_) ?_
 refine e_' (pt_ D 1) ?_
 refine Zcb (i_ ab) (x := aL_ 3 (pt_ D 1) e) (by kernel_rfl) (U.l_) ?_
 refine e_' (pt_ b2 2) ?_
 refine Zcb (i_ ac) (x := aL_ 3 (pt_ b2 2) e) (by kernel_rfl) (V.l_) ?_
 refine e_' (pt_ D 2) ?_
 refine Zcb (i_ ad) (x := aL_ 3 (pt_ D 2) e) (by kernel_rfl) (U.l_) ?_
 obtain ⟨aw, ak, ap⟩ := bs_ ah
 refine dk_ (ZeF O.wf ak) ?_
 rintro _ _ ⟨rfl, rfl⟩
 refine ⟨ZaB (y := aL_ 3 (pt_ D 2) e) (by kernel_rfl) (U.l_) (ZaB (y := aL_ 3 (pt_ b2 2) e) (by kernel_rfl) (V.l_) (ZaB (y := aL_ 3 (pt_ D 1) e) (by kernel_rfl) (U.l_) (ZaB (y := aL_ 3 (pt_ b2 1) e) (by kernel_rfl) (V.l_) (ZF)))), ?_⟩
 obtain ⟨ax, al, aq⟩ := bs_ ap
 refine dk_ (ZeF O.wf al) ?_
 rintro _ _ ⟨rfl, rfl⟩
 refine ⟨ZaB (y := aL_ 3 (pt_ D 2) e) (by kernel_rfl) (U.l_) (ZaB (y := aL_ 3 (pt_ b2 2) e) (by kernel_rfl) (V.l_) (Zab (by kernel_rfl) (Zab (by kernel_rfl) (ZF)))), ?_⟩
 obtain ⟨ay, am, ar⟩ := bs_ aq
 refine dk_ (ZeF O.wf am) ?_
 rintro _ _ ⟨rfl, rfl⟩
 refine ⟨Zab (by kernel_rfl) (Zab (by kernel_rfl) (Zab (by kernel_rfl) (Zab (by kernel_rfl) (ZF)))), ?_⟩
 refine Zh1 (enc := (Zak .i64)) (sz := 1) O.wf [aw, ax, ay] 3 (by decide) (fun _ _ => rfl) (fun _ _ => rfl) rfl (by kernel_rfl) fun aI aD aA ae aG ag => ?_
 obtain ⟨aB, aH, aC, rfl⟩ := ag.form
 obtain ⟨aj, an, au⟩ := bs_ ar
 refine dk_ (Zml ae.wf ag.sq an) ?_
 rintro _ _ ⟨rfl, rfl⟩
 refine ⟨Zab (by kernel_rfl) (Zab (by kernel_rfl) (Zab (by kernel_rfl) (Zab (by kernel_rfl) (ZF)))), ?_⟩
 refine e_' (i_ aj) ?_
 refine ZI ?_
 refine ao _ _ ?_
 refine Zg ?_
 refine br_ [i_ aj] ?_
 obtain rfl := oi_ au
 exact ⟨rfl, ((((f0_ ai).extR af).extR O).extR ae)⟩
theorem Zgc {H : AH} {O : Int} {e : Int} {V : Int} {U : Int} {D : Int} {Y : Int} {r : Bool}
    (ad : WF H) (ac : Zc0 O e V U D Y = some r) :
    ACalls Tryz.prog 83 #[.agg #[i_ O, i_ e, i_ V], .agg #[i_ U, i_ D, i_ Y]] H fun v H' => v = .bool r /\ FrS [] H H' := by
 refine ab_ Tryz.func83 ?_
 unfold Zc0 at ac
 refine sq_ fun k1 => g_' ?_
 refine rl_ ad [i_ O, i_ e, i_ V] fun b2 al aa ao ak => ?_
 refine rl_ aa.wf [i_ U, i_ D, i_ Y] fun ae am Z an ag => ?_
 refine q_ (.bool false) (Za (k1 _ _ (sq_ fun af => g_' (q_ (pt_ b2 0) ?_))))
 have ah := (ak.ext Z)
 refine lr_ 3 0 (i_ O) ah (q_ (pt_ ae 0) (lr_ 3 0 (i_ U) ag ?_))
 refine sb_ (O = U) (fun ab => ?_) fun ab => ?_
 ·have ai := Ze ab ac
  refine q_ (.bool true) (q_ (pt_ b2 1) (lr_ 3 1 (i_ e) ah (q_ (pt_ ae 1) (lr_ 3 1 (i_ D) ag (q_ (.bool (decide (e = D))) (q_ (.bool (decide (e = D))) (q_ (.bool (decide (e = D))) (Za (af _ _ ?_)))))))))
  refine Zg ?_
  refine br_ [.bool (decide (e = D))] ?_
  obtain rfl := oi_ ai
  exact ⟨rfl, (((f0_ ad).extR aa).extR Z)⟩
 have aj := Zi ab ac
 refine q_ (.bool false) (n_' (n_' (n_' (n_' (n_' (q_ (.bool false) (q_ (.bool false) (Za (af _ _ ?_)))))))))
 refine Zg ?_
 refine br_ [.bool false] ?_
 obtain rfl := oi_ aj
 exact ⟨rfl, (((f0_ ad).extR aa).extR Z)⟩
theorem Zf3 {H : AH} {O : Value} {Z : Fp} {s : List (Int × Int × Int)} {r : List (Int × Int × Int) × List (Int × Int × Int)}
    (U : WF H) (aj : Ow Zq 3 H O s Z) (aE : ZbN s = some r) :
    ACalls Tryz.prog 82 #[O, .func (.func 83) #[] #[]] H fun v H' => ∃ (bd : Value), v = bd /\ FrS Z H H' /\ Ow Zq 3 H' bd r.1 Z /\ Ow Zq 3 H' O r.2 Z := by
 refine ab_ Tryz.func82 ?_
 unfold ZbN at aE
 refine sq_ fun bV => g_' (q_ (.slice none 0 0) (Za (bV _ _ (sq_ fun bY => sq_ fun b5 => g_' (q_ (O) (aj.sq.ln_ 22 (q_ (.bool (decide ((s.length : Int) < 2))) (Za (b5 _ _ ?_)))))))))
 refine wc_ ((s.length : Int) < 2) (fun aB => ?_) fun aB => ?_
 ·have cg := Ze aB aE
  refine sq_ fun bH => g_' (q_ (O) (q_ (O) (Za (bH _ _ ?_))))
  refine Zg (Zh ?_)
  refine br_ [O] ?_
  obtain rfl := oi_ cg
  exact ⟨(O), rfl, (fr_ U), aj, aj⟩
 have cm := Zi aB aE
 refine Zf (bY _ _ (sq_ fun bJ => sq_ fun bL => g_' (q_ (i_ 1) (Za (bL _ _ ?_)))))
 obtain ⟨bi, bC, bb⟩ := bs_ cm
 refine ZC (fun α aG => ∃ a_, bi = Sum.inr a_ /\ Has α [(0, O)] /\ FrS [] H aG) (fun _ bO => ?_) (fun α aG hM => ?_)
 ·refine Zm ?_
  obtain ⟨a6, bx⟩ := Zu.1 bC
  refine ZJ (fun n α aH => ∃ (k3 : Int), ZR (fun zz_ => Za2 s zz_) n k3 = some bi /\ Has α [(0, O), (1, .func (.func 83) #[] #[]), (5, i_ k3)] /\ FrS [] H aH) a6 ⟨1, bx, ha_, (f0_ U)⟩ ?_
  rintro a6 α aH ⟨k3, bu, aQ, ah⟩ cR bP
  obtain ⟨b_, cM, rfl, ak, aC⟩ := Zy bu
  obtain ⟨β, rfl⟩ := Zk aQ
  clear aQ
  replace ak : Za2 s k3 = some cM := ak
  unfold Za2 at ak
  refine sq_ fun bQ => sq_ fun bR => g_' (q_ (i_ k3) (q_ (O) ?_))
  have af := (aj.fr ah dn_)
  refine af.sq.ln_ 22 (q_ (.bool (decide (k3 < (s.length : Int)))) (Za (bR _ _ ?_)))
  refine wc_ (k3 < (s.length : Int)) (fun ai => ?_) fun ai => ?_
  ·have cC := Ze ai ak
   refine Zf (bQ _ _ (sq_ fun bS => Zm (sq_ fun bT => ?_)))
   refine ZQ [0, 1, 2, 3, 4, 5, 6, 7, 8, 9, 10] (by kernel_rfl) ?_
   refine e_' (.func (.func 83) #[] #[]) (e_' (O) (e_' (i_ k3) ?_))
   obtain ⟨aN, cD⟩ := Zb cC
   refine af.sq.mx_ 22 aN ai (me_ 74 0 (.agg #[i_ ((gt s k3).1), i_ ((gt s k3).2.1), i_ ((gt s k3).2.2)]) af.sq aN ai (e_' (O) (e_' (i_ k3) ?_)))
   obtain ⟨bt, cE⟩ := Zb cD
   refine d_w ((k3 - 1)) (k := .i64) (x := (k3 - 1)) (by kernel_rfl) (Zn bt) ?_
   obtain ⟨av, cF⟩ := Zb cE
   refine af.sq.mx_ 22 av.1 av.2 (me_ 74 0 (.agg #[i_ ((gt s (k3 - 1)).1), i_ ((gt s (k3 - 1)).2.1), i_ ((gt s (k3 - 1)).2.2)]) af.sq av.1 av.2 ?_)
   obtain ⟨cL, bF, bc⟩ := bs_ cF
   refine dk_ (Zgc ah.wf bF) ?_
   rintro _ aI ⟨rfl, V⟩
   refine ⟨ZF, ?_⟩
   refine ZI ?_
   refine bT _ _ ?_
   refine wb_ (cL) (fun aA => ?_) fun aA => ?_
   ·have cG := Ze aA bc
    refine sq_ fun bU => g_' (q_ (O) (q_ (i_ k3) ?_))
    obtain ⟨aO, cH⟩ := Zb cG
    have bf := (af.fr V dn_)
    obtain ⟨cZ, cf, am⟩ := Ow.view (P := Tryz.prog) bf (t := 22) (by kernel_rfl) (lo := some (i_ k3)) (l := k3.toNat) (ZcH _ (by have := aO; omega)) (by have := aO; omega)
    obtain ⟨aa, ad, ab, rfl⟩ := am.form
    refine Zbg (.slice aa ad ab) (by kernel_rfl) cf ?_
    refine q_ (.slice aa ad ab) (Za (bU _ _ (sq_ fun bW => sq_ fun bX => g_' (q_ (i_ 1) (Za (bX _ _ ?_))))))
    obtain ⟨Y, bD, cI⟩ := bs_ cH
    refine ZC (fun α ax => Has α [(0, O), (5, i_ Y.2)] /\ FrS Z aI ax /\ Ow Zq 3 ax O Y.1 Z) (fun _ bZ => ?_) (fun α ax hM => ?_)
    ·refine Zm ?_
     obtain ⟨a7, bz⟩ := Zu.1 bD
     refine ZJ (fun n α ay => ∃ (D : List (Int × Int × Int)), ∃ (k1 : Int), ∃ (e : Int), ZR (fun zz_ => Za1 k3 zz_.1 zz_.2.1 zz_.2.2) n (D, k1, e) = some Y /\ Has α [(0, O), (1, .func (.func 83) #[] #[]), (5, i_ k1), (6, .slice aa ad ab), (7, i_ e)] /\ FrS Z aI ay /\ Ow Zq 3 ay O D Z) a7 ⟨s, k3, 1, bz, ha_, (fr_ V.wf), bf⟩ ?_
     rintro a7 α ay ⟨D, k1, e, bv, aS, ap, ae⟩ cS aZ
     obtain ⟨a8, cN, rfl, al, aD⟩ := Zy bv
     obtain ⟨β, rfl⟩ := Zk aS
     clear aS
     replace al : Za1 k3 D k1 e = some cN := al
     unfold Za1 at al
     refine sq_ fun b6 => sq_ fun b7 => g_' (q_ (i_ e) (q_ (.slice aa ad ab) ?_))
     obtain ⟨bB, cV⟩ := am.sq ae
     refine bB.ln_ 22 (q_ (.bool (decide (e < ((D.drop k3.toNat).length : Int)))) (Za (b7 _ _ ?_)))
     refine wc_ (e < ((D.drop k3.toNat).length : Int)) (fun ac => ?_) fun ac => ?_
     ·have cJ := Ze ac al
      refine Zf (b6 _ _ (sq_ fun a1 => Zm (sq_ fun b8 => ?_)))
      refine ZQ [0, 1, 2, 3, 4, 5, 6, 7, 8, 9, 10, 11] (by kernel_rfl) ?_
      refine e_' (.func (.func 83) #[] #[]) (e_' (.slice aa ad ab) (e_' (i_ e) ?_))
      obtain ⟨aX, cW⟩ := am.sq ae
      obtain ⟨aq, ch⟩ := Zb cJ
      refine aX.mx_ 22 aq ac (me_ 74 0 (.agg #[i_ ((gt (D.drop k3.toNat) e).1), i_ ((gt (D.drop k3.toNat) e).2.1), i_ ((gt (D.drop k3.toNat) e).2.2)]) aX aq ac (e_' (.slice aa ad ab) (e_' (i_ e) ?_)))
      obtain ⟨bn, ci⟩ := Zb ch
      refine d_w ((e - 1)) (k := .i64) (x := (e - 1)) (by kernel_rfl) (Zn bn) ?_
      obtain ⟨aU, cT⟩ := am.sq ae
      obtain ⟨ar, cj⟩ := Zb ci
      refine aU.mx_ 22 ar.1 ar.2 (me_ 74 0 (.agg #[i_ ((gt (D.drop k3.toNat) (e - 1)).1), i_ ((gt (D.drop k3.toNat) (e - 1)).2.1), i_ ((gt (D.drop k3.toNat) (e - 1)).2.2)]) aU ar.1 ar.2 ?_)
      obtain ⟨bh, bE, ba⟩ := bs_ cj
      refine dk_ (Zgc ap.wf bE) ?_
      rintro _ cO ⟨rfl, ag⟩
      refine ⟨ZF, ?_⟩
      refine e_' (.bool (!bh)) ?_
      refine ZI ?_
      refine b8 _ _ ?_
      refine wb_ ((!bh)) (fun az => ?_) fun az => ?_
      ·have ck := Ze az ba
       refine sq_ fun bI => g_' (q_ (O) (q_ (i_ k1) (q_ (.slice aa ad ab) (q_ (i_ e) ?_))))
       have aF := (ae.fr ag dn_)
       obtain ⟨aV, cU⟩ := am.sq aF
       refine aV.ix_ 22 aq ac (le_ 74 0 (.agg #[i_ ((gt (D.drop k3.toNat) e).1), i_ ((gt (D.drop k3.toNat) e).2.1), i_ ((gt (D.drop k3.toNat) e).2.2)]) aV aq ac ?_)
       obtain ⟨au, cn⟩ := Zb ck
       refine aF.sq.ix_ 22 au.1 au.2 ?_
       obtain ⟨cP, ca, bl, bw⟩ := Ow.store (P := Tryz.prog) (t := 74) (off := 0) ag.wf aF au.1 au.2 (.agg #[i_ ((gt (D.drop k3.toNat) e).1), i_ ((gt (D.drop k3.toNat) e).2.1), i_ ((gt (D.drop k3.toNat) e).2.2)]) [i_ ((gt (D.drop k3.toNat) e).1), i_ ((gt (D.drop k3.toNat) e).2.1), i_ ((gt (D.drop k3.toNat) e).2.2)] (by kernel_rfl) (by kernel_rfl) rfl ((gt (D.drop k3.toNat) e).1, (gt (D.drop k3.toNat) e).2.1, (gt (D.drop k3.toNat) e).2.2) (Nat.le_of_ble_eq_true rfl) (by kernel_rfl)
       refine ek_ ca (Za (bI _ _ (g_' (q_ (i_ k1) ?_))))
       obtain ⟨bo, co⟩ := Zb cn
       refine w_' ((k1 + 1)) (Zn (by have := bo; omega)) (q_ (i_ (k1 + 1)) (Za (a1 _ _ (g_' (q_ (i_ e) ?_)))))
       obtain ⟨bp, cp⟩ := Zb co
       refine w_' ((e + 1)) (Zn (by have := bp; omega)) (q_ (i_ (e + 1)) (Za ?_))
       obtain rfl := oi_ cp
       exact aZ a8 _ _ lt_ ⟨(D.set k1.toNat ((gt (D.drop k3.toNat) e).1, (gt (D.drop k3.toNat) e).2.1, (gt (D.drop k3.toNat) e).2.2)), (k1 + 1), (e + 1), aD, ha_, (fs_ V.wf (fs_ V.wf (fs_ V.wf (fr_ V.wf) ap ir_) ag in_) bl ir_), bw⟩
      have cq := ZL az ba
      refine Zf (a1 _ _ (g_' (q_ (i_ e) ?_)))
      obtain ⟨bq, cr⟩ := Zb cq
      refine w_' ((e + 1)) (Zn (by have := bq; omega)) (q_ (i_ (e + 1)) (Za ?_))
      have cK := (ae.fr ag dn_)
      obtain rfl := oi_ cr
      exact aZ a8 _ _ lt_ ⟨D, k1, (e + 1), aD, ha_, (fs_ V.wf (fs_ V.wf (fr_ V.wf) ap ir_) ag in_), cK⟩
     have cu := Zi ac al
     refine ZK (Zj (Zj (ZV ?_)))
     obtain rfl := oi_ cu
     obtain rfl := Zx aD
     exact bZ _ _ ⟨ha_, (fs_ V.wf (fr_ V.wf) ap ir_), ae⟩
    obtain ⟨aR, aK, a2⟩ := hM
    obtain ⟨β, rfl⟩ := Zk aR
    clear aR
    refine bW _ _ (sq_ fun bK => g_' (q_ (O) (q_ (i_ Y.2) ?_)))
    obtain ⟨aL, cv⟩ := Zb cI
    obtain ⟨cX, cc, bg⟩ := Ow.view (P := Tryz.prog) a2 (t := 22) (by kernel_rfl) (lo := some (i_ Y.2)) (l := Y.2.toNat) (ZcH _ (by have := aL; omega)) (by have := aL; omega)
    obtain ⟨bj, b9, bk, rfl⟩ := bg.form
    refine Zbg (.slice bj b9 bk) (by kernel_rfl) cc ?_
    obtain ⟨br, cw⟩ := Zb cv
    obtain ⟨cQ, cd, bm, aT⟩ := View.clear (P := Tryz.prog) (m := 24) (at_ := #[22]) bg ((0, 0, 0) : Int × Int × Int) aK.wf a2 br rfl (by kernel_rfl)
    refine ZaN (.tuple #[]) (by kernel_rfl) (ZjH cd) ?_
    refine Za (bK _ _ (sq_ fun bM => g_' (q_ (O) (q_ (i_ Y.2) ?_))))
    obtain ⟨aM, cx⟩ := Zb cw
    obtain ⟨cY, ce, aW⟩ := Ow.head (P := Tryz.prog) aT (t := 22) (by kernel_rfl) (hi := (some (i_ Y.2))) (r := Y.2.toNat) (ZcH _ (by have := aM; omega)) (by have := aM; omega)
    obtain ⟨an, aw, ao, rfl⟩ := aW.form
    refine Zbg (.slice an aw ao) (by kernel_rfl) ce ?_
    refine q_ (.slice an aw ao) (Za (bM _ _ ?_))
    refine Zg (ZN (Zh (Zh (ZN (Zh (Zh ?_))))))
    obtain ⟨c0, aY, bG⟩ := map_some cx
    subst bG
    obtain rfl := Zx aC
    have bA := elim_inl bb
    rw [bA] at aY
    refine br_ [.slice an aw ao] ?_
    obtain rfl := oi_ aY
    exact ⟨(.slice an aw ao), rfl, (fs_ U (fs_ U (fs_ U (fs_ U (fr_ U) ah in_) V in_) aK ir_) bm ir_), aW, aT⟩
   have cy := ZL aA bc
   refine Zf (bS _ _ (g_' (q_ (i_ k3) ?_)))
   obtain ⟨bs, cz⟩ := Zb cy
   refine w_' ((k3 + 1)) (Zn (by have := bs; omega)) (q_ (i_ (k3 + 1)) (Za ?_))
   obtain rfl := oi_ cz
   exact bP b_ _ _ lt_ ⟨(k3 + 1), aC, ha_, (fs_ U (fs_ U (f0_ U) ah in_) V in_)⟩
  have cA := Zi ai ak
  refine ZK (Zj (Zj (ZV ?_)))
  obtain rfl := oi_ cA
  obtain rfl := Zx aC
  exact bO _ _ ⟨_, rfl, ha_, (fs_ U (f0_ U) ah in_)⟩
 obtain ⟨a_, rfl, aP, aJ⟩ := hM
 have cB := elim_inr bb
 obtain ⟨β, rfl⟩ := Zk aP
 clear aP
 refine bJ _ _ (sq_ fun bN => g_' (q_ (O) (q_ (O) (Za (bN _ _ ?_)))))
 refine Zg ?_
 refine br_ [O] ?_
 have be := (aj.fr aJ dn_)
 obtain rfl := oi_ cB
 exact ⟨(O), rfl, (fs_ U (fr_ U) aJ in_), be, be⟩
theorem ZjV {H : AH} {al : Value} {bY : Fp} {O : Int} {Arcs : List (Int × Int × Int)} {r : Int × List (Int × Int × Int) × Er}
    (V : WF H) (aY : Sq Zq 3 H al Arcs bY) (aI : Zd0 O Arcs = some r) :
    ACalls Tryz.prog 56 #[.agg #[i_ O, al]] H fun v H' => ∃ (bF : Value) (aU : Fp) (bO : Value) (aV : Fp), v = .tuple #[.agg #[i_ r.1, bF], bO] /\ FrS [] H H' /\ Ow Zq 3 H' bF r.2.1 aU /\ Ev 78 116 H' bO r.2.2 aV /\ Inn [] H aU /\ Inn [] H aV /\ Dj aU aV := by
 refine ab_ Tryz.func56 ?_
 unfold Zd0 at aI
 refine sq_ fun cj => g_' ?_
 refine ZaG V [i_ O, al] (Zs (rfl) (Zs (aY.one1) (Z1))) (by kernel_rfl) fun bd dq ac dD bD => ?_
 refine rk_ ac.wf [i_ 0, .slice none 0 0] fun aC dw ad bk av => ?_
 refine q_ (.nilIface) (Za (cj _ _ (sq_ fun cp => sq_ fun cq => g_' ?_)))
 have bJ := (bD.ext ad)
 refine lr_ 24 0 (.agg #[i_ O, al]) bJ ?_
 have bK := ((aY.ext ac).ext ad)
 obtain ⟨dM, cf, bE⟩ := bs_ aI
 refine ck_ (ZiN ad.wf bK cf) ?_
 rintro bN dx ⟨_, bX, rfl, U, bv, bq⟩
 refine q_ (bN) (Za (cq _ _ (sq_ fun bs => g_' (q_ (bN) ?_))))
 rcases (bv).cases with ⟨aX, rfl⟩ | ⟨aX, aw, ax, rfl⟩
 ·have c4 := Ze aX bE
  refine q_ (.bool false) (Za (bs _ _ ?_))
  refine wb_ false (fun h => by cases h) fun _ => ?_
  refine Zf (cp _ _ (sq_ fun cr => g_' (q_ (pt_ bd 0) ?_)))
  have bL := (bJ.frS U dn_)
  refine lr_ 3 0 (i_ O) bL (q_ (.agg #[i_ O, .slice none 0 0]) ?_)
  refine rk_ U.wf [i_ 0, .slice none 0 0] fun Y dy ag ak an => ?_
  obtain ⟨ay, cL, D, c5⟩ := ra_ 24 0 ag.wf an [i_ O, .slice none 0 0] [i_ O, .slice none 0 0]
  refine ek_ cL (Za (cr _ _ (sq_ fun cu => sq_ fun cv => g_' (q_ (pt_ bd 1) ?_))))
  have cE := (t_ ad.n U.n)
  have bV := (ak.djn (bD.ltF.le cE))
  have dh := ((bL.ext ag).frS D bV)
  refine lr_ 22 1 (al) dh ?_
  have aK := (t_ (t_ ac.n ad.n) U.n)
  have bf := (ak.djn (aY.lt.le aK))
  have bM := (((bK.fr U dn_).ext ag).fr D bf)
  refine bM.ln_ 22 (q_ (i_ 0) (Za (cv _ _ ?_)))
  obtain ⟨bB, cc, c6⟩ := bs_ c4
  refine ZC (fun α az => ∃ (ba : Value) (aH : Fp), Has α [(2, pt_ aC 0), (5, pt_ Y 0)] /\ FrS [Y] ay az /\ Ow Zq 3 az ba bB aH /\ Row az Y [i_ O, ba] /\ Inn [] ay aH) (fun _ cw => ?_) (fun α az hM => ?_)
  ·refine Zm ?_
   obtain ⟨bz, ca⟩ := Zu.1 cc
   refine ZJ (fun n α aA => ∃ (e : Int), ∃ (c1 : List (Int × Int × Int)), ∃ (bb : Value), ∃ (ao : Fp), ZR (fun zz_ => Zda Arcs zz_.1 zz_.2) n (e, c1) = some bB /\ Has α [(2, pt_ aC 0), (5, pt_ Y 0), (18, al), (19, i_ (Arcs.length : Int)), (20, i_ e)] /\ FrS [Y] ay aA /\ Ow Zq 3 aA bb c1 ao /\ Row aA Y [i_ O, bb] /\ Inn [] ay ao) bz ⟨0, [], (.slice none 0 0), [], ca, ha_, (fr_ D.wf), (Ow.nil (by decide)), c5, in_⟩ ?_
   rintro bz α aA ⟨e, c1, bb, ao, b8, bn, Z, am, a1, au⟩ dz bt
   obtain ⟨bA, di, rfl, aq, aZ⟩ := Zy b8
   obtain ⟨β, rfl⟩ := Zk bn
   clear bn
   replace aq : Zda Arcs e c1 = some di := aq
   unfold Zda at aq
   obtain ⟨aM, a7, aO, rfl⟩ := am.form
   refine sq_ fun cx => g_' (q_ (.bool (decide (e < (Arcs.length : Int)))) (Za (cx _ _ (sq_ fun cg => ?_))))
   refine wc_ (e < (Arcs.length : Int)) (fun ap => ?_) fun ap => ?_
   ·have cM := Ze ap aq
    refine Zf (cg _ _ (sq_ fun br => Zm (sq_ fun ch => g_' ?_)))
    obtain ⟨bj, bC⟩ := Zb cM
    have bG := (bM.fr Z bf)
    refine bG.ix_ 22 bj ap (le_ 74 0 (.agg #[i_ ((gt Arcs e).1), i_ ((gt Arcs e).2.1), i_ ((gt Arcs e).2.2)]) bG bj ap ?_)
    refine rk_ Z.wf [i_ 0, i_ 0, i_ 0] fun bc dk aa aj cN => ?_
    obtain ⟨dm, cF, ab, a8⟩ := ra_ 74 0 aa.wf cN [i_ ((gt Arcs e).1), i_ ((gt Arcs e).2.1), i_ ((gt Arcs e).2.2)] [i_ ((gt Arcs e).1), i_ ((gt Arcs e).2.1), i_ ((gt Arcs e).2.2)]
    refine ek_ cF (Za (ch _ _ (sq_ fun ci => g_' (q_ (pt_ bc 0) (lr_ 3 0 (i_ ((gt Arcs e).1)) a8 (q_ (pt_ bc 1) (lr_ 3 1 (i_ ((gt Arcs e).2.1)) a8 (q_ (.bool (!decide (((gt Arcs e).1) = ((gt Arcs e).2.1)))) (Za (ci _ _ ?_))))))))))
    refine Zde (((gt Arcs e).1) = ((gt Arcs e).2.1)) (by kernel_rfl) rfl (fun aW => ?_) (fun aW => ?_)
    ·have cO := Zi aW bC
     refine g_' (q_ (pt_ Y 1) ?_)
     have cy := (t_ D.n Z.n)
     have bR := (aj.djn (an.ltF.le cy))
     have bH := ((a1.ext aa).frS ab bR)
     refine lr_ 22 1 (.slice aM a7 aO) bH (lr_ 74 0 (.agg #[i_ ((gt Arcs e).1), i_ ((gt Arcs e).2.1), i_ ((gt Arcs e).2.2)]) a8 ?_)
     refine Zbl (enc := Zq) (sz := 3) ab.wf [((gt Arcs e).1, (gt Arcs e).2.1, (gt Arcs e).2.2)] 1 (by decide) (fun _ _ => rfl) (fun _ _ => rfl) rfl (by kernel_rfl) fun dH dC dn ai dE bo => ?_
     obtain ⟨dA, dG, dB, rfl⟩ := bo.form
     have c7 := (((am.ext aa).fr ab (aj.djn am.lt)).ext ai)
     obtain ⟨bZ, cP⟩ := Zb cO
     obtain ⟨dI, dp, bW, cG, aS, bp, bl⟩ := Ow.append (P := Tryz.prog) 24 ai.wf c7 bo.sq (fun _ _ => rfl) (at_ := #[22, 22]) rfl rfl (by kernel_rfl) (by kernel_rfl) (by decide) (by have := bZ; first | omega | (simp only [List.length_cons, List.length_nil] at this ⊢; omega) | (simp at this ⊢; omega))
     obtain ⟨aB, aJ, aD, rfl⟩ := bp.form
     refine ZaN (.slice aB aJ aD) (by kernel_rfl) (cG) ?_
     refine q_ (pt_ Y 1) ?_
     have be := (au.djn (an.ltF.le D.n))
     have c8 := ((bH.ext ai).frS aS be)
     obtain ⟨dr, cH, bg, cQ⟩ := rb_ 22 1 aS.wf c8 (.slice aB aJ aD) [i_ O, .slice aB aJ aD]
     refine ek_ cH (Za (br _ _ (g_' ?_)))
     obtain ⟨b5, cR⟩ := Zb cP
     refine w_' ((e + 1)) (Zn (by have := b5; omega)) (q_ (i_ (e + 1)) (Za ?_))
     have cz := (t_ (t_ (t_ (t_ D.n Z.n) aa.n) ab.n) ai.n)
     have bS := (bl.dj be (an.ltF.le cz))
     have c9 := (bp.fr bg (Dj.symm bS))
     have cA := (t_ (t_ (t_ Z.n aa.n) ab.n) ai.n)
     obtain rfl := oi_ cR
     exact bt bA _ _ lt_ ⟨(e + 1), (c1 ++ [((gt Arcs e).1, (gt Arcs e).2.1, (gt Arcs e).2.2)]), (.slice aB aJ aD), bW, aZ, ha_, (fs_ D.wf (fs_ D.wf ((fs_ D.wf ((fs_ D.wf (fr_ D.wf) Z ir_).extR aa) ab (aj.fresh Z.n)).extR ai) aS (au.fresh (Nat.le_refl _))) bg ir_), c9, cQ, (Inn.trans (au.fresh (Nat.le_refl _)) cA bl)⟩
    have cS := Ze aW bC
    refine Zf (br _ _ (g_' ?_))
    obtain ⟨b6, cT⟩ := Zb cS
    refine w_' ((e + 1)) (Zn (by have := b6; omega)) (q_ (i_ (e + 1)) (Za ?_))
    have c_ := ((am.ext aa).fr ab (aj.djn am.lt))
    have cB := (t_ D.n Z.n)
    have bT := (aj.djn (an.ltF.le cB))
    have da := ((a1.ext aa).frS ab bT)
    obtain rfl := oi_ cT
    exact bt bA _ _ lt_ ⟨(e + 1), c1, (.slice aM a7 aO), ao, aZ, ha_, (fs_ D.wf ((fs_ D.wf (fr_ D.wf) Z ir_).extR aa) ab (aj.fresh Z.n)), c_, da, (au.fresh (Nat.le_refl _))⟩
   have cU := Zi ap aq
   refine ZK (Zj (Zj (ZV ?_)))
   obtain rfl := oi_ cU
   obtain rfl := Zx aZ
   exact cw _ _ ⟨(.slice aM a7 aO), ao, ha_, (fs_ D.wf (fr_ D.wf) Z ir_), am, a1, (au.fresh (Nat.le_refl _))⟩
  obtain ⟨ba, aH, bm, aT, bw, bx, ar⟩ := hM
  obtain ⟨β, rfl⟩ := Zk bm
  clear bm
  obtain ⟨aL, a2, aN, rfl⟩ := bw.form
  refine cu _ _ (sq_ fun ck => g_' (q_ (pt_ Y 1) (lr_ 22 1 (.slice aL a2 aN) bx ?_)))
  obtain ⟨b7, cV⟩ := Zb c6
  obtain ⟨dK, cd, cW⟩ := bs_ cV
  refine ZgE 80 #[.slice aL a2 aN, .func (.func 81) #[] #[]] (by kernel_rfl) (Znk (enc := Zq) (fun _ => rfl) (by intro x v hv; simp only [Zq, List.mem_cons, List.not_mem_nil, or_false] at hv; rcases hv with rfl | rfl | rfl <;> rfl) (by intro x v hv; simp only [Zq, List.mem_cons, List.not_mem_nil, or_false] at hv; rcases hv with rfl | rfl | rfl <;> rfl) (c := (fun (a_ b_ : Int × Int × Int) => Zca a_.1 a_.2.1 a_.2.2 b_.1 b_.2.1 b_.2.2)) (Go.Proofs.enters_of Tryz.func81 (by kernel_rfl) rfl) (fun x y r aI => (Zim Zno aI).mono fun v H' h => h.1) aT.wf bw b7 cd) ?_
  rintro _ dt ⟨rfl, aE, b9⟩
  refine Za (ck _ _ (sq_ fun cm => g_' (q_ (pt_ Y 1) ?_)))
  have aP := (ar.djn (an.ltF.le D.n))
  have bI := (bx.frS aE aP)
  refine lr_ 22 1 (.slice aL a2 aN) bI ?_
  obtain ⟨dL, ce, cX⟩ := bs_ cW
  refine ck_ (Zf3 aE.wf b9 ce) ?_
  rintro dJ du ⟨_, rfl, aF, bu, dF⟩
  obtain ⟨ae, ah, af, rfl⟩ := bu.form
  refine q_ (pt_ Y 1) ?_
  have db := (bI.frS aF aP)
  obtain ⟨dv, cI, aG, cY⟩ := rb_ 22 1 aF.wf db (.slice ae ah af) [i_ O, .slice ae ah af]
  refine ek_ cI (Za (cm _ _ (sq_ fun cn => g_' (lr_ 24 0 (.agg #[i_ O, .slice ae ah af]) cY ?_))))
  have aQ := (ak.djn (av.ltF.le U.n))
  have cC := (t_ (t_ U.n ag.n) D.n)
  have aR := (ar.djn (av.ltF.le cC))
  have dc := (((((((av.frS U dn_).ext ag).frS D aQ).frS aT aQ).frS aE aR).frS aF aR).frS aG aQ)
  have dd := (bu.fr aG (Dj.symm aP))
  obtain ⟨bP, cJ, bh, cZ⟩ := ra_ 24 0 aG.wf dc [i_ O, .slice ae ah af] [i_ O, .slice ae ah af]
  refine ek_ cJ (q_ (.nilIface) (Za (cn _ _ ?_)))
  refine Zg ?_
  refine Z3 (vs := [.agg #[i_ O, .slice ae ah af], .nilIface]) (ZM (Eq.trans (b := aL_ 24 (pt_ aC 0) bP) (by kernel_rfl) (cZ.l_)) (rt_ (rfl))) ?_
  have a6 := (t_ (t_ (t_ (t_ ac.n ad.n) U.n) ag.n) D.n)
  have de := (dd.fr bh (Dj.symm aR))
  obtain rfl := oi_ cX
  exact ⟨(.slice ae ah af), aH, (.nilIface), [], rfl, (fs_ V (fs_ V (fs_ V (fs_ V (fs_ V (fs_ V ((fs_ V (((f0_ V).extR ac).extR ad) U in_).extR ag) D (ak.fresh aK)) aT (ak.fresh aK)) aE (ar.fresh a6)) aF (ar.fresh a6)) aG (ak.fresh aK)) bh (bk.fresh ac.n)), de, Ev.nil, (ar.fresh a6), in_, Dj.nil_r⟩
 have c0 := Zi aX bE
 refine l_' (.bool true) (Zb1 Tryz.prog .neq 38 (.tmp 10) (.const .nilIface) (.iface aw ax) .nilIface) (Zd7 (by kernel_rfl)) (Za (bs _ _ ?_))
 refine wb_ true (fun _ => ?_) fun h => by cases h
 refine sq_ fun co => g_' (q_ (.agg #[i_ 0, .slice none 0 0]) (q_ (.iface aw ax) ?_))
 have df := (av.frS U dn_)
 obtain ⟨bQ, cK, bi, c3⟩ := ra_ 24 0 U.wf df [i_ 0, .slice none 0 0] [i_ 0, .slice none 0 0]
 refine ek_ cK (q_ (.iface aw ax) (Za (co _ _ ?_)))
 refine Zg (Zh ?_)
 refine Z3 (vs := [.agg #[i_ 0, .slice none 0 0], .iface aw ax]) (ZM (Eq.trans (b := aL_ 24 (pt_ aC 0) bQ) (by kernel_rfl) (c3.l_)) (rt_ (rfl))) ?_
 have bU := (bq.djn av.ltF)
 have dg := (bv.fr bi (Dj.symm bU))
 have cD := (t_ ac.n ad.n)
 obtain rfl := oi_ c0
 exact ⟨(.slice none 0 0), [], (.iface aw ax), bX, rfl, (fs_ V (fs_ V (((f0_ V).extR ac).extR ad) U in_) bi (bk.fresh ac.n)), (Ow.nil (by decide)), dg, in_, (bq.fresh cD), dn_⟩
end Go.Vd

/-! (KSn1) -/

set_option maxRecDepth 100000
set_option maxHeartbeats 4000000
set_option linter.unusedVariables false
namespace Go.Vd
open Go.Proofs
attribute [local irreducible] Zp Zr aWp
theorem Zge {H : AH} {aV : Value} {cG : Fp} {aP : Int} {Arcs : List (Int × Int × Int)} {r : (Er) ⊕ (List (Bool × List (Int × Int × Int) × List (Int × Int × Int)) × Int × Int)}
    (aq : WF H) (bE : Sq Zq 3 H aV Arcs cG) (bO : Zc2 aP Arcs = some r) :
    ACalls Tryz.prog 26 #[.agg #[i_ aP, aV]] H fun v H' => Sum.elim (fun (r : Er) => ∃ (v3 : Value) (bB : Fp), v = .tuple #[.pointer none, v3] /\ FrS [] H H' /\ Ev 78 116 H' v3 r bB /\ Inn [] H bB) (fun (r : List (Bool × List (Int × Int × Int) × List (Int × Int × Int)) × Int × Int) => ∃ (bZ : Value) (bg : Fp) (aQ : Nat), v = .tuple #[pt_ aQ 0, .nilIface] /\ FrS [] H H' /\ Nd Zc 3 H' bZ r.1 bg [] /\ Row H' aQ [bZ, i_ r.2.1, i_ r.2.2] /\ Inn [] H bg /\ Inn [] H [aQ] /\ Dj bg [aQ]) r := by
 refine ab_ Tryz.func26 ?_
 unfold Zc2 at bO
 refine sq_ fun da => g_' ?_
 refine ZaG aq [i_ aP, aV] (Zs (rfl) (Zs (bE.one1) (Z1))) (by kernel_rfl) fun ej ea af ev dL => ?_
 refine q_ (.pointer none) (q_ (.nilIface) (Za (da _ _ (sq_ fun db => g_' (lr_ 24 0 (.agg #[i_ aP, aV]) dL ?_)))))
 have d2 := (bE.ext af)
 obtain ⟨e, c3, bX⟩ := bs_ bO
 refine ck_ (ZjV af.wf d2 c3) ?_
 rintro _ eb ⟨eF, f29, a6, cF, rfl, ao, aZ, bT, ey, c4, em⟩
 obtain ⟨ar, aw, au, rfl⟩ := aZ.form
 refine q_ (.tuple #[.agg #[i_ e.1, .slice ar aw au], a6]) (q_ (.agg #[i_ e.1, .slice ar aw au]) (q_ (a6) ?_))
 refine rk_ ao.wf [i_ 0, .slice none 0 0] fun aR ec ah aU dR => ?_
 have d6 := (aZ.ext ah)
 obtain ⟨ed, dE, ai, bY⟩ := ra_ 24 0 ah.wf dR [i_ e.1, .slice ar aw au] [i_ e.1, .slice ar aw au]
 refine ek_ dE (q_ (a6) (Za (db _ _ (sq_ fun de => sq_ fun bQ => g_' (q_ (a6) ?_)))))
 have b8 := ((bT.ext ah).fr ai (aU.djn bT.lt))
 rcases (b8).cases with ⟨bh, rfl⟩ | ⟨bh, aJ, aM, rfl⟩
 ·have dS := Ze bh bX
  refine q_ (.bool false) (Za (bQ _ _ ?_))
  refine wb_ false (fun h => by cases h) fun _ => ?_
  refine Zf (de _ _ (sq_ fun df => ?_))
  refine ZQ [0, 1, 2, 3, 4, 5, 6, 7, 8, 9, 10] (by kernel_rfl) ?_
  refine e_' (pt_ aR 0) (mr_ 3 0 (i_ e.1) bY ?_)
  obtain ⟨bD, dT⟩ := Zb dS
  refine Zhy (t := 123) (m := 56) (l := e.1) (c := e.1) (enc := id) (sz := 3) ai.wf [.bool false, .slice none 0 0, .slice none 0 0] (by kernel_rfl) (by decide) bD.1 (Int.le_refl _) (by omega) (by have := bD; omega) (by kernel_rfl) fun eG aB cd aA bj aj => ?_
  replace aj := Nd.zeros (enc := Zc) (sz := 3) (by decide) aj
  obtain ⟨U, Y, V, rfl⟩ := aj.form
  have aj : Nd Zc 3 cd (.slice U Y V) (List.replicate e.1.toNat (false, [], [])) aB [] := aj
  refine e_' (pt_ aR 0) ?_
  have bq := (bY.ext aA)
  refine mr_ 3 0 (i_ e.1) bq (e_' (pt_ aR 1) (mr_ 22 1 (.slice ar aw au) bq ?_))
  have b9 := ((d6.fr ai (aU.djn aZ.lt)).ext aA)
  refine b9.sq.mn_ 22 (e_' (.agg #[.slice U Y V, i_ e.1, i_ (e.2.1.length : Int)]) ?_)
  refine d_rwl aA.wf [.slice U Y V, i_ e.1, i_ (e.2.1.length : Int)] (Zs (aj.one1) (Zs (rfl) (Zs (rfl) (Z1)))) (by kernel_rfl) fun Z aO aa bi ak => ?_
  refine e_' (pt_ Z 0) ?_
  refine ZI ?_
  refine df _ _ (sq_ fun dg => sq_ fun dh => g_' (q_ (pt_ aR 1) ?_))
  have d7 := (bq.ext aa)
  refine lr_ 22 1 (.slice ar aw au) d7 ?_
  have b_ := (b9.ext aa)
  refine b_.sq.ln_ 22 (q_ (i_ 0) (Za (dh _ _ ?_)))
  obtain ⟨bW, c0, dU⟩ := bs_ dT
  refine ZC (fun α bd => ∃ (aS : Fp), Has α [(6, pt_ Z 0)] /\ FrS aB aO bd /\ Nd Zc 3 bd (.slice U Y V) bW aS [] /\ Inn aB aO aS) (fun _ di => ?_) (fun α bd hM => ?_)
  ·refine Zm ?_
   obtain ⟨bV, cT⟩ := Zu.1 c0
   have dV := (aj.ext aa)
   refine ZJ (fun n α ba => ∃ (D : Int), ∃ (O : List (Bool × List (Int × Int × Int) × List (Int × Int × Int))), ∃ (aE : Fp), ZR (fun zz_ => ZcT e zz_.1 zz_.2) n (D, O) = some bW /\ Has α [(6, pt_ Z 0), (28, .slice ar aw au), (29, i_ (e.2.1.length : Int)), (30, i_ D)] /\ FrS aB aO ba /\ Nd Zc 3 ba (.slice U Y V) O aE [] /\ Inn aB aO aE) bV ⟨0, (List.replicate e.1.toNat (false, [], [])), aB, cT, ha_, (fr_ aa.wf), dV, ir_⟩ ?_
   rintro bV α ba ⟨D, O, aE, cO, bH, ag, aY, av⟩ ee c5
   obtain ⟨dm, d9, rfl, aG, bN⟩ := Zy cO
   obtain ⟨β, rfl⟩ := Zk bH
   clear bH
   replace aG : ZcT e D O = some d9 := aG
   unfold ZcT at aG
   refine sq_ fun c6 => g_' (q_ (.bool (decide (D < (e.2.1.length : Int)))) (Za (c6 _ _ (sq_ fun c7 => ?_))))
   refine wc_ (D < (e.2.1.length : Int)) (fun aF => ?_) fun aF => ?_
   ·have dF := Ze aF aG
    refine Zf (c7 _ _ (sq_ fun c8 => Zm (sq_ fun c9 => g_' ?_)))
    obtain ⟨bC, dG⟩ := Zb dF
    have dn := (t_ ah.n ai.n)
    have cn := (bj.djn (aZ.lt.le dn))
    have b5 := (b_.fr ag cn)
    refine b5.sq.ix_ 22 bC aF (le_ 74 0 (.agg #[i_ ((gt e.2.1 D).1), i_ ((gt e.2.1 D).2.1), i_ ((gt e.2.1 D).2.2)]) b5.sq bC aF ?_)
    refine rk_ ag.wf [i_ 0, i_ 0, i_ 0] fun ad d_ ax aT aH => ?_
    obtain ⟨aN, dz, al, aI⟩ := ra_ 74 0 ax.wf aH [i_ ((gt e.2.1 D).1), i_ ((gt e.2.1 D).2.1), i_ ((gt e.2.1 D).2.2)] [i_ ((gt e.2.1 D).1), i_ ((gt e.2.1 D).2.1), i_ ((gt e.2.1 D).2.2)]
    refine ek_ dz (Za (c9 _ _ (sq_ fun c_ => ?_)))
    refine ZQ [0, 1, 2, 3, 4, 5, 6, 7, 8, 9, 10, 11, 12, 13, 14, 15, 16, 17, 18, 19, 20, 21, 22, 23, 24, 25] (by kernel_rfl) ?_
    refine e_' (pt_ Z 0) (e_' (pt_ Z 0) (e_' (pt_ Z 0) ?_))
    have bt := (bi.djn aj.lt)
    have co := (aT.djn (ak.ltF.le ag.n))
    have bm := (((ak.frS ag (Dj.symm bt)).ext ax).frS al co)
    refine Zcb (.slice U Y V) (x := aL_ 123 (pt_ Z 0) aN) (by kernel_rfl) (bm.l_) ?_
    refine e_' (pt_ ad 0) ?_
    refine Zcb (i_ ((gt e.2.1 D).1)) (x := aL_ 3 (pt_ ad 0) aN) (by kernel_rfl) (aI.l_) ?_
    refine e_' (pt_ Z 0) (e_' (pt_ Z 0) (e_' (pt_ Z 0) (mr_ 123 0 (.slice U Y V) bm (e_' (pt_ ad 0) (mr_ 3 0 (i_ ((gt e.2.1 D).1)) aI ?_)))))
    obtain ⟨ab, dH⟩ := Zb dG
    have a2 := ((aY.ext ax).fr al (aT.djn aY.lt))
    refine a2.mx_ 123 ab.1 ab.2 (m_' (elp (.slice U Y V) 3 ((gt e.2.1 D).1).toNat 1) (Zw Tryz.prog 138 (elp (.slice U Y V) 3 ((gt e.2.1 D).1).toNat 0) 1) (Nd.fldq (d := 1) a2 ab.1 ab.2 (by kernel_rfl)) ?_)
    obtain ⟨dW, eH, cR, cP⟩ := Nd.at a2 ab.1 ab.2
    have bR : KdS Zc 3 aN dW ((gt O ((gt e.2.1 D).1)).2.1) aE (.slice U Y V) 3 ((gt e.2.1 D).1).toNat 1 := cP false (by simp)
    obtain ⟨ce, dp, ci, rfl⟩ := bR.sq.form
    refine m_' (.slice ce dp ci) (aL_ 75 (elp (.slice U Y V) 3 ((gt e.2.1 D).1).toNat 1) aN) (cR _ _ _ _ (by kernel_rfl)) (e_' (pt_ ad 1) (mr_ 3 1 (i_ ((gt e.2.1 D).2.1)) aI (e_' (pt_ ad 2) (mr_ 3 2 (i_ ((gt e.2.1 D).2.2)) aI ?_))))
    obtain ⟨cH, dI⟩ := Zb dH
    refine d_w ((gt e.2.1 D).2.2) (k := .u64) (x := (gt e.2.1 D).2.2) (by kernel_rfl) (Zdw cH) ?_
    refine e_' (.agg #[i_ ((gt e.2.1 D).2.1), .int .u64 ((gt e.2.1 D).2.2), i_ (-1)]) ?_
    refine Zh1 (enc := Zc) (sz := 3) al.wf [((gt e.2.1 D).2.1, (gt e.2.1 D).2.2, (-1))] 1 (by decide) (fun _ _ => rfl) (fun _ _ => rfl) rfl (by kernel_rfl) fun eB eo bb ae ew bJ => ?_
    obtain ⟨ef, ez, ek, rfl⟩ := bJ.form
    have dX := (a2.ext ae)
    have dY := (bR.ext ae)
    obtain ⟨cD, ep, aW, cU, bu, cW, cX⟩ := Nd.borrow false dX ab.1 ab.2 (by simp) dY rfl
    have a7 := Inn.sub' (H := bb) cW
    have a8 := Inn.sub' (H := bb) cX
    have aW : Nd Zc 3 bb (.slice U Y V) O cD [(((gt e.2.1 D).1).toNat, false)] := aW
    obtain ⟨cI, dJ⟩ := Zb dI
    obtain ⟨eC, br, eq, dA, am, bK, bF⟩ := Ow.append (P := Tryz.prog) 24 ae.wf cU bJ.sq (fun _ _ => rfl) (at_ := #[75, 75]) rfl rfl (by kernel_rfl) (by kernel_rfl) (by decide) (by have := cI; first | omega | (simp only [List.length_cons, List.length_nil] at this ⊢; omega) | (simp at this ⊢; omega))
    obtain ⟨cf, dq, cj, rfl⟩ := bK.form
    have be := (av.dj (Dj.symm bt) ak.ltF)
    have ap := (t_ (t_ (t_ ag.n ax.n) al.n) ae.n)
    have cp := (a8.dj be (ak.ltF.le ap))
    have b6 := ((bm.ext ae).frS am cp)
    have bf := (aT.djn aY.lt)
    have bl := (t_ al.n ae.n)
    have cq := (a8.dj (Dj.symm bf) (aH.ltF.le bl))
    have b7 := ((aI.ext ae).frS am cq)
    refine ZgT (.slice cf dq cj) (by kernel_rfl) (dA) (ZaB (y := aL_ 3 (pt_ ad 0) br) (by kernel_rfl) (b7.l_) (ZaB (y := aL_ 123 (pt_ Z 0) br) (by kernel_rfl) (b6.l_) (ZF))) ?_
    have bn := (aW.fr am (Dj.symm bu))
    refine bn.mx_ 123 ab.1 ab.2 (m_' (elp (.slice U Y V) 3 ((gt e.2.1 D).1).toNat 1) (Zw Tryz.prog 138 (elp (.slice U Y V) 3 ((gt e.2.1 D).1).toNat 0) 1) (Nd.fldq (d := 1) bn ab.1 ab.2 (by kernel_rfl)) ?_)
    have cr := (bF.dj (Dj.symm bu) aW.lt)
    obtain ⟨aD, bz, dB, ay, aC, cM⟩ := Nd.close (P := Tryz.prog) (t := 75) false am.wf bn bK (Dj.symm cr) ab.1 ab.2 (by kernel_rfl) (by kernel_rfl) (by kernel_rfl)
    have aC : Nd Zc 3 aD (.slice U Y V) (O.set ((gt e.2.1 D).1).toNat ((gt O ((gt e.2.1 D).1)).1, ((gt O ((gt e.2.1 D).1)).2.1 ++ [((gt e.2.1 D).2.1, (gt e.2.1 D).2.2, (-1))]), (gt O ((gt e.2.1 D).1)).2.2)) bz [] := aC
    have aL := cM.grow3 (Inn.trans ir_ (Nat.le_refl _) a7) (Inn.trans (Inn.trans ir_ (Nat.le_refl _) a8) (Nat.le_refl _) bF) am.n
    refine fk_ dB (Zab (by kernel_rfl) (Zab (by kernel_rfl) (ZF))) ?_
    refine ZI ?_
    refine c_ _ _ ?_
    refine ZQ [0, 1, 2, 3, 4, 5, 6, 7, 8, 9, 10, 11, 12, 13, 14, 15, 16, 17, 18, 19, 20, 21, 22, 23, 24, 25] (by kernel_rfl) ?_
    refine e_' (pt_ Z 0) (e_' (pt_ Z 0) (e_' (pt_ Z 0) ?_))
    have cu := (a7.dj be (ak.ltF.le ap))
    have bo := (b6.frS ay cu)
    refine Zcb (.slice U Y V) (x := aL_ 123 (pt_ Z 0) aD) (by kernel_rfl) (bo.l_) ?_
    refine e_' (pt_ ad 1) ?_
    have cv := (a7.dj (Dj.symm bf) (aH.ltF.le bl))
    have aK := (b7.frS ay cv)
    refine Zcb (i_ ((gt e.2.1 D).2.1)) (x := aL_ 3 (pt_ ad 1) aD) (by kernel_rfl) (aK.l_) ?_
    refine e_' (pt_ Z 0) (e_' (pt_ Z 0) (e_' (pt_ Z 0) (mr_ 123 0 (.slice U Y V) bo (e_' (pt_ ad 1) (mr_ 3 1 (i_ ((gt e.2.1 D).2.1)) aK ?_)))))
    obtain ⟨ac, dK⟩ := Zb dJ
    refine aC.mx_ 123 ac.1 ac.2 (m_' (elp (.slice U Y V) 3 ((gt e.2.1 D).2.1).toNat 2) (Zw Tryz.prog 138 (elp (.slice U Y V) 3 ((gt e.2.1 D).2.1).toNat 0) 2) (Nd.fldq (d := 2) aC ac.1 ac.2 (by kernel_rfl)) ?_)
    obtain ⟨eI, dZ, cS, cQ⟩ := Nd.at aC ac.1 ac.2
    have bS : KdS Zc 3 aD dZ ((gt (O.set ((gt e.2.1 D).1).toNat ((gt O ((gt e.2.1 D).1)).1, ((gt O ((gt e.2.1 D).1)).2.1 ++ [((gt e.2.1 D).2.1, (gt e.2.1 D).2.2, (-1))]), (gt O ((gt e.2.1 D).1)).2.2)) ((gt e.2.1 D).2.1)).2.2) bz (.slice U Y V) 3 ((gt e.2.1 D).2.1).toNat 2 := cQ true (by simp)
    obtain ⟨cg, dr, ck, rfl⟩ := bS.sq.form
    refine m_' (.slice cg dr ck) (aL_ 75 (elp (.slice U Y V) 3 ((gt e.2.1 D).2.1).toNat 2) aD) (cS _ _ _ _ (by kernel_rfl)) (e_' (pt_ ad 0) (mr_ 3 0 (i_ ((gt e.2.1 D).1)) aK (e_' (pt_ ad 2) (mr_ 3 2 (i_ ((gt e.2.1 D).2.2)) aK ?_))))
    obtain ⟨cJ, dM⟩ := Zb dK
    refine d_w ((gt e.2.1 D).2.2) (k := .u64) (x := (gt e.2.1 D).2.2) (by kernel_rfl) (Zdw (by have := cJ; omega)) ?_
    refine e_' (.agg #[i_ ((gt e.2.1 D).1), .int .u64 ((gt e.2.1 D).2.2), i_ (-1)]) ?_
    refine Zh1 (enc := Zc) (sz := 3) ay.wf [((gt e.2.1 D).1, (gt e.2.1 D).2.2, (-1))] 1 (by decide) (fun _ _ => rfl) (fun _ _ => rfl) rfl (by kernel_rfl) fun eD es bc an ex bL => ?_
    obtain ⟨eh, eA, el, rfl⟩ := bL.form
    have d0 := (aC.ext an)
    have d1 := (bS.ext an)
    obtain ⟨cE, et, aX, cV, bv, cY, cZ⟩ := Nd.borrow true d0 ac.1 ac.2 (by simp) d1 rfl
    have ca := Inn.sub' (H := bc) cY
    have a_ := Inn.sub' (H := bc) cZ
    have aX : Nd Zc 3 bc (.slice U Y V) (O.set ((gt e.2.1 D).1).toNat ((gt O ((gt e.2.1 D).1)).1, ((gt O ((gt e.2.1 D).1)).2.1 ++ [((gt e.2.1 D).2.1, (gt e.2.1 D).2.2, (-1))]), (gt O ((gt e.2.1 D).1)).2.2)) cE [(((gt e.2.1 D).2.1).toNat, true)] := aX
    obtain ⟨cK, dN⟩ := Zb dM
    obtain ⟨eE, bs, eu, dC, az, bM, bG⟩ := Ow.append (P := Tryz.prog) 24 an.wf cV bL.sq (fun _ _ => rfl) (at_ := #[75, 75]) rfl rfl (by kernel_rfl) (by kernel_rfl) (by decide) (by have := cK; first | omega | (simp only [List.length_cons, List.length_nil] at this ⊢; omega) | (simp at this ⊢; omega))
    obtain ⟨ch, dt, cm, rfl⟩ := bM.form
    have cw := (aL.dj be (ak.ltF.le ap))
    have a1 := (t_ (t_ (t_ (t_ (t_ (t_ ag.n ax.n) al.n) ae.n) am.n) ay.n) an.n)
    have cx := (a_.dj cw (ak.ltF.le a1))
    have d3 := ((bo.ext an).frS az cx)
    have cy := (aL.dj (Dj.symm bf) (aH.ltF.le bl))
    have du := (t_ (t_ (t_ (t_ al.n ae.n) am.n) ay.n) an.n)
    have cz := (a_.dj cy (aH.ltF.le du))
    have d4 := ((aK.ext an).frS az cz)
    refine ZgT (.slice ch dt cm) (by kernel_rfl) (dC) (ZaB (y := aL_ 3 (pt_ ad 1) bs) (by kernel_rfl) (d4.l_) (ZaB (y := aL_ 123 (pt_ Z 0) bs) (by kernel_rfl) (d3.l_) (ZF))) ?_
    have bp := (aX.fr az (Dj.symm bv))
    refine bp.mx_ 123 ac.1 ac.2 (m_' (elp (.slice U Y V) 3 ((gt e.2.1 D).2.1).toNat 2) (Zw Tryz.prog 138 (elp (.slice U Y V) 3 ((gt e.2.1 D).2.1).toNat 0) 2) (Nd.fldq (d := 2) bp ac.1 ac.2 (by kernel_rfl)) ?_)
    have cA := (bG.dj (Dj.symm bv) aX.lt)
    obtain ⟨cc, bA, dD, cC, bk, cN⟩ := Nd.close (P := Tryz.prog) (t := 75) true az.wf bp bM (Dj.symm cA) ac.1 ac.2 (by kernel_rfl) (by kernel_rfl) (by kernel_rfl)
    have bk : Nd Zc 3 cc (.slice U Y V) ((O.set ((gt e.2.1 D).1).toNat ((gt O ((gt e.2.1 D).1)).1, ((gt O ((gt e.2.1 D).1)).2.1 ++ [((gt e.2.1 D).2.1, (gt e.2.1 D).2.2, (-1))]), (gt O ((gt e.2.1 D).1)).2.2)).set ((gt e.2.1 D).2.1).toNat ((gt (O.set ((gt e.2.1 D).1).toNat ((gt O ((gt e.2.1 D).1)).1, ((gt O ((gt e.2.1 D).1)).2.1 ++ [((gt e.2.1 D).2.1, (gt e.2.1 D).2.2, (-1))]), (gt O ((gt e.2.1 D).1)).2.2)) ((gt e.2.1 D).2.1)).1, (gt (O.set ((gt e.2.1 D).1).toNat ((gt O ((gt e.2.1 D).1)).1, ((gt O ((gt e.2.1 D).1)).2.1 ++ [((gt e.2.1 D).2.1, (gt e.2.1 D).2.2, (-1))]), (gt O ((gt e.2.1 D).1)).2.2)) ((gt e.2.1 D).2.1)).2.1, ((gt (O.set ((gt e.2.1 D).1).toNat ((gt O ((gt e.2.1 D).1)).1, ((gt O ((gt e.2.1 D).1)).2.1 ++ [((gt e.2.1 D).2.1, (gt e.2.1 D).2.2, (-1))]), (gt O ((gt e.2.1 D).1)).2.2)) ((gt e.2.1 D).2.1)).2.2 ++ [((gt e.2.1 D).1, (gt e.2.1 D).2.2, (-1))]))) bA [] := bk
    have d8 := cN.grow3 (Inn.trans ir_ (Nat.le_refl _) ca) (Inn.trans (Inn.trans ir_ (Nat.le_refl _) a_) (Nat.le_refl _) bG) az.n
    refine fk_ dD (Zab (by kernel_rfl) (Zab (by kernel_rfl) (ZF))) ?_
    refine ZI ?_
    refine c8 _ _ (g_' ?_)
    obtain ⟨cL, dO⟩ := Zb dN
    refine w_' ((D + 1)) (Zn (by have := cL; omega)) (q_ (i_ (D + 1)) (Za ?_))
    obtain rfl := oi_ dO
    exact c5 dm _ _ lt_ ⟨(D + 1), ((O.set ((gt e.2.1 D).1).toNat ((gt O ((gt e.2.1 D).1)).1, ((gt O ((gt e.2.1 D).1)).2.1 ++ [((gt e.2.1 D).2.1, (gt e.2.1 D).2.2, (-1))]), (gt O ((gt e.2.1 D).1)).2.2)).set ((gt e.2.1 D).2.1).toNat ((gt (O.set ((gt e.2.1 D).1).toNat ((gt O ((gt e.2.1 D).1)).1, ((gt O ((gt e.2.1 D).1)).2.1 ++ [((gt e.2.1 D).2.1, (gt e.2.1 D).2.2, (-1))]), (gt O ((gt e.2.1 D).1)).2.2)) ((gt e.2.1 D).2.1)).1, (gt (O.set ((gt e.2.1 D).1).toNat ((gt O ((gt e.2.1 D).1)).1, ((gt O ((gt e.2.1 D).1)).2.1 ++ [((gt e.2.1 D).2.1, (gt e.2.1 D).2.2, (-1))]), (gt O ((gt e.2.1 D).1)).2.2)) ((gt e.2.1 D).2.1)).2.1, ((gt (O.set ((gt e.2.1 D).1).toNat ((gt O ((gt e.2.1 D).1)).1, ((gt O ((gt e.2.1 D).1)).2.1 ++ [((gt e.2.1 D).2.1, (gt e.2.1 D).2.2, (-1))]), (gt O ((gt e.2.1 D).1)).2.2)) ((gt e.2.1 D).2.1)).2.2 ++ [((gt e.2.1 D).1, (gt e.2.1 D).2.2, (-1))]))), bA, bN, ha_, (fs_ aa.wf (fs_ aa.wf ((fs_ aa.wf (fs_ aa.wf ((fs_ aa.wf ((fs_ aa.wf (fr_ aa.wf) ag ir_).extR ax) al (aT.fresh ag.n)).extR ae) am (Inn.trans (Inn.trans ir_ (Nat.le_refl _) av) ap a8)) ay (Inn.trans (Inn.trans ir_ (Nat.le_refl _) av) ap a7)).extR an) az (Inn.trans (Inn.trans (Inn.trans ir_ (Nat.le_refl _) av) ap aL) a1 a_)) cC (Inn.trans (Inn.trans (Inn.trans ir_ (Nat.le_refl _) av) ap aL) a1 ca)), bk, (Inn.trans (Inn.trans (Inn.trans ir_ (Nat.le_refl _) av) ap aL) a1 d8)⟩
   have dP := Zi aF aG
   refine ZK (Zj (Zj (ZV ?_)))
   obtain rfl := oi_ dP
   obtain rfl := Zx bN
   exact di _ _ ⟨aE, ha_, (fs_ aa.wf (fr_ aa.wf) ag ir_), aY, (Inn.trans ir_ (Nat.le_refl _) av)⟩
  obtain ⟨aS, bI, bx, dk, bP⟩ := hM
  obtain ⟨β, rfl⟩ := Zk bI
  clear bI
  refine dg _ _ (sq_ fun dc => g_' (q_ (pt_ Z 0) (q_ (pt_ Z 0) (q_ (.nilIface) (Za (dc _ _ ?_))))))
  refine Zg ?_
  refine br_ [pt_ Z 0, .nilIface] ?_
  have dv := (t_ af.n ao.n)
  have bU := (t_ (t_ (t_ af.n ao.n) ah.n) ai.n)
  have bw := (bi.djn aj.lt)
  have d5 := (ak.frS bx (Dj.symm bw))
  have dw := (t_ (t_ (t_ (t_ (t_ af.n ao.n) ah.n) ai.n) aA.n) aa.n)
  have dx := (t_ (t_ (t_ (t_ af.n ao.n) ah.n) ai.n) aA.n)
  have cB := (bP.dj (Dj.symm bw) ak.ltF)
  obtain rfl := oi_ dU
  exact (Zki ⟨(.slice U Y V), aS, Z, rfl, (fs_ aq (((fs_ aq ((fs_ aq ((f0_ aq).extR af) ao in_).extR ah) ai (aU.fresh dv)).extR aA).extR aa) bx (bj.fresh bU)), dk, d5, (Inn.trans (bj.fresh bU) dw bP), (bi.fresh dx), cB⟩)
 have dQ := Zi bh bX
 refine l_' (.bool true) (Zb1 Tryz.prog .neq 38 (.tmp 14) (.const .nilIface) (.iface aJ aM) .nilIface) (Zd7 (by kernel_rfl)) (Za (bQ _ _ ?_))
 refine wb_ true (fun _ => ?_) fun h => by cases h
 refine sq_ fun dd => g_' (q_ (.iface aJ aM) (q_ (.pointer none) (q_ (.iface aJ aM) (Za (dd _ _ ?_)))))
 refine Zg (Zh ?_)
 refine br_ [.pointer none, .iface aJ aM] ?_
 have dy := (t_ af.n ao.n)
 obtain rfl := oi_ dQ
 exact (Zkt ⟨(.iface aJ aM), cF, rfl, (fs_ aq ((fs_ aq ((f0_ aq).extR af) ao in_).extR ah) ai (aU.fresh dy)), b8, (c4.fresh af.n)⟩)
theorem ZY {H : AH} {D : Nat} {U : Value} {ag : Fp} {O : List (Bool × List (Int × Int × Int) × List (Int × Int × Int))} {ad : Int} {ae : Int} {e : Int} {r : Bool}
    (ap : WF H) (Y : Nd Zc 3 H U O ag []) (ac : Row H D [U, i_ ad, i_ ae]) (ab : ZE O ad ae e = some r) :
    ACalls Tryz.prog 42 #[pt_ D 0, i_ e] H fun v H' => v = .bool r /\ H = H' := by
 refine ab_ Tryz.func42 ?_
 unfold ZE at ab
 refine sq_ fun k1 => g_' (q_ (.bool false) (Za (k1 _ _ (sq_ fun k2 => g_' (q_ (pt_ D 0) (q_ (.bool true) (q_ (.bool true) (q_ (i_ e) ?_))))))))
 refine sb_ (e ≥ 0) (fun aa => ?_) fun aa => ?_
 ·have af := Ze aa ab
  refine q_ (.bool true) (q_ (.bool true) (q_ (i_ e) (q_ (pt_ D 0) (q_ (pt_ D 0) (q_ (pt_ D 0) (lr_ 123 0 (U) ac (Y.ln_ 123 ?_)))))))
  refine sb_ (e < (O.length : Int)) (fun V => ?_) fun V => ?_
  ·have ak := Ze V af
   refine q_ (.bool true) (q_ (.bool true) (q_ (pt_ D 0) (q_ (pt_ D 0) (q_ (pt_ D 0) (lr_ 123 0 (U) ac (q_ (i_ e) ?_))))))
   obtain ⟨Z, al⟩ := Zb ak
   refine Y.ix_ 123 Z V (l_' (elp U 3 e.toNat 0) (Zw Tryz.prog 138 (elp U 3 e.toNat 0) 0) (Nd.fldq (d := 0) Y Z V (by kernel_rfl)) ?_)
   obtain ⟨ao, an, ah, am⟩ := Nd.at Y Z V
   refine l_' (.bool ((gt O e).1)) (aL_ 4 (elp U 3 e.toNat 0) H) (ah _ _ _ _ (by kernel_rfl)) (q_ (.bool (!(gt O e).1)) (q_ (.bool (!(gt O e).1)) (q_ (.bool (!(gt O e).1)) (Za (k2 _ _ ?_)))))
   refine Zg ?_
   refine br_ [.bool (!(gt O e).1)] ?_
   obtain rfl := oi_ al
   exact ⟨rfl, rfl⟩
  have ai := Zi V af
  refine q_ (.bool false) (q_ (.bool false) (n_' (n_' (n_' (n_' (n_' (n_' (n_' (n_' (n_' (q_ (.bool false) (q_ (.bool false) (Za (k2 _ _ ?_))))))))))))))
  refine Zg ?_
  refine br_ [.bool false] ?_
  obtain rfl := oi_ ai
  exact ⟨rfl, rfl⟩
 have aj := Zi aa ab
 refine q_ (.bool false) (q_ (.bool false) (n_' (n_' (n_' (n_' (n_' (n_' (n_' (q_ (.bool false) (q_ (.bool false) (n_' (n_' (n_' (n_' (n_' (n_' (n_' (n_' (n_' (q_ (.bool false) (q_ (.bool false) (Za (k2 _ _ ?_)))))))))))))))))))))))
 refine Zg ?_
 refine br_ [.bool false] ?_
 obtain rfl := oi_ aj
 exact ⟨rfl, rfl⟩
theorem Zia {H : AH} {e : Nat} {V : Value} {ae : Fp} {Z : List (Bool × List (Int × Int × Int) × List (Int × Int × Int))} {aa : Int} {ab : Int} {O : Int} {r : Er}
    (ar : WF H) (ag : Nd Zc 3 H V Z ae []) (af : Row H e [V, i_ aa, i_ ab]) (Y : ZdP Z aa ab O = some r) :
    ACalls Tryz.prog 49 #[pt_ e 0, i_ O] H fun v H' => ∃ (v3 : Value) (U : Fp), v = v3 /\ H = H' /\ Ev 78 116 H' v3 r U /\ Inn [] H U := by
 refine ab_ Tryz.func49 ?_
 unfold ZdP at Y
 refine sq_ fun al => g_' (q_ (.nilIface) (Za (al _ _ (sq_ fun am => sq_ fun an => g_' (q_ (pt_ e 0) (q_ (.bool false) (Za (an _ _ ?_))))))))
 refine wb_ false (fun h => by cases h) fun _ => ?_
 refine Zf (am _ _ (sq_ fun ao => sq_ fun ai => g_' (q_ (pt_ e 0) (q_ (i_ O) ?_))))
 obtain ⟨ad, ah, ac⟩ := bs_ Y
 refine ck_ (ZY ar ag af ah) ?_
 rintro _ _ ⟨rfl, rfl⟩
 refine q_ (.bool (!ad)) (Za (ai _ _ ?_))
 refine wb_ ((!ad)) (fun D => ?_) fun D => ?_
 ·have ap := Ze D ac
  refine sq_ fun aj => g_' (q_ (.iface 78 (i_ 7)) (q_ (.iface 78 (i_ 7)) (Za (aj _ _ ?_))))
  refine Zg (Zh ?_)
  refine br_ [.iface 78 (i_ 7)] ?_
  obtain rfl := oi_ ap
  exact ⟨(.iface 78 (i_ 7)), [], rfl, rfl, Ev.no, in_⟩
 have aq := ZL D ac
 refine Zf (ao _ _ (sq_ fun ak => g_' (q_ (.nilIface) (Za (ak _ _ ?_)))))
 refine Zg ?_
 refine br_ [.nilIface] ?_
 obtain rfl := oi_ aq
 exact ⟨(.nilIface), [], rfl, rfl, Ev.nil, in_⟩
theorem ZeA {H : AH} {e : Int} {r : Int}
    (O : WF H) (D : Zcn e = some r) :
    ACalls Tryz.prog 75 #[i_ e] H fun v H' => v = i_ r /\ H = H' := by
 refine ab_ Tryz.func75 ?_
 unfold Zcn at D
 refine sq_ fun k1 => g_' (q_ (i_ 0) (Za (k1 _ _ (sq_ fun k2 => g_' (q_ (i_ e) (l_' (i_ (max e 0)) (Zfx Tryz.prog [i_ e, i_ 0]) (ZeV _ _) (l_' (i_ (min (max e 0) 1048576)) (Zgp Tryz.prog [i_ (max e 0), i_ 1048576]) (Zhu _ _) (q_ (i_ (min (max e 0) 1048576)) (Za (k2 _ _ ?_))))))))))
 refine Zg ?_
 refine br_ [i_ (min (max e 0) 1048576)] ?_
 obtain rfl := oi_ D
 exact ⟨rfl, rfl⟩
theorem Zhh {H : AH} {e : Int} {D : Int} {V : Int} {O : Int} {U : Int} {r : Int × Int}
    (ac : WF H) (ab : Zds e D V O U = some r) :
    ACalls Tryz.prog 50 #[.agg #[i_ e, i_ D, i_ V, i_ O, i_ U]] H fun v H' => v = .tuple #[i_ r.1, i_ r.2] /\ FrS [] H H' := by
 refine ab_ Tryz.func50 ?_
 unfold Zds at ab
 refine sq_ fun k1 => g_' ?_
 refine rl_ ac [i_ e, i_ D, i_ V, i_ O, i_ U] fun b2 aa Y al Z => ?_
 refine q_ (i_ 0) (q_ (i_ 0) (Za (k1 _ _ (sq_ fun ah => g_' (q_ (.func (.func 75) #[] #[]) (Za (ah _ _ (sq_ fun ai => ?_))))))))
 refine ZQ [0, 1, 2, 4, 5, 6, 3, 7, 8, 9] (by kernel_rfl) ?_
 refine e_' (.func (.func 75) #[] #[]) (e_' (pt_ b2 0) (mr_ 3 0 (i_ e) Z (e_' (.func (.func 75) #[] #[]) (e_' (pt_ b2 1) ?_))))
 refine Zcb (i_ D) (x := aL_ 3 (pt_ b2 1) aa) (by kernel_rfl) (Z.l_) ?_
 obtain ⟨ad, af, aj⟩ := bs_ ab
 refine dk_ (ZeA Y.wf af) ?_
 rintro _ _ ⟨rfl, rfl⟩
 refine ⟨ZaB (y := aL_ 3 (pt_ b2 1) aa) (by kernel_rfl) (Z.l_) (ZF), ?_⟩
 obtain ⟨ae, ag, ak⟩ := bs_ aj
 refine dk_ (ZeA Y.wf ag) ?_
 rintro _ _ ⟨rfl, rfl⟩
 refine ⟨Zab (by kernel_rfl) (ZF), ?_⟩
 refine e_' (i_ ad) (e_' (i_ ae) ?_)
 refine ZI ?_
 refine ai _ _ ?_
 refine Zg ?_
 refine br_ [i_ ad, i_ ae] ?_
 obtain rfl := oi_ ak
 exact ⟨rfl, ((f0_ ac).extR Y)⟩
theorem ZfQ {H : AH} {Y : Value} {aj : Fp} {s : List (Int × Int × Int)} {r : List (Int × Int × Int)}
    (V : WF H) (ab : Sq Zc 3 H Y s aj) (Z : ZcN s = some r) :
    ACalls Tryz.prog 57 #[Y] H fun v H' => ∃ (ag : Value) (aa : Fp), v = ag /\ FrS [] H H' /\ Ow Zc 3 H' ag r aa /\ Inn [] H aa := by
 refine ab_ Tryz.func57 ?_
 unfold ZcN at Z
 refine sq_ fun ao => g_' (q_ (.slice none 0 0) (Za (ao _ _ (sq_ fun ap => sq_ fun af => g_' (q_ (Y) ?_)))))
 rcases Sq.nilOr ab with ⟨rfl, rfl⟩ | ⟨a9, aq, ah, rfl⟩
 ·refine q_ (.bool true) (Za (af _ _ ?_))
  refine wb_ true (fun _ => ?_) fun h => by cases h
  refine sq_ fun am => g_' (q_ (.slice none 0 0) (Za (am _ _ ?_)))
  refine Zg (Zh ?_)
  refine br_ [.slice none 0 0] ?_
  have hn_ : some ([] : List (Int × Int × Int)) = some r := by simpa [G] using Z
  obtain rfl := oi_ hn_
  exact ⟨(.slice none 0 0), [], rfl, (f0_ V), (Ow.nil (by decide)), in_⟩
 refine q_ (.bool false) (Za (af _ _ ?_))
 refine wb_ false (fun h => by cases h) fun _ => ?_
 refine Zf (ap _ _ (sq_ fun an => g_' ?_))
 refine Zbl (enc := Zc) (sz := 3) V ([] : List (Int × Int × Int)) 0 (by decide) (fun _ _ => rfl) (fun _ _ => rfl) rfl (by kernel_rfl) fun aB f15 aw O ac ad => ?_
 obtain ⟨ay, aA, az, rfl⟩ := ad.form
 refine q_ (.slice (some a9) aq ah) ?_
 obtain ⟨ak, au⟩ := Zb Z
 have av := (ab.ext O)
 obtain ⟨aC, ax, f28, ar, ai, ae, al⟩ := Ow.append (P := Tryz.prog) 24 O.wf ad av (fun _ _ => rfl) (at_ := #[75, 75]) rfl rfl (by kernel_rfl) (by kernel_rfl) (by decide) (by have := ak; first | omega | (simp only [List.length_cons, List.length_nil] at this ⊢; omega) | (simp at this ⊢; omega))
 obtain ⟨e, U, D, rfl⟩ := ae.form
 refine ZaN (.slice e U D) (by kernel_rfl) (ar) ?_
 refine q_ (.slice e U D) (Za (an _ _ ?_))
 refine Zg ?_
 refine br_ [.slice e U D] ?_
 obtain rfl := oi_ au
 exact ⟨(.slice e U D), f28, rfl, (fs_ V ((f0_ V).extR O) ai (ac.fresh (Nat.le_refl _))), ae, (Inn.trans (ac.fresh (Nat.le_refl _)) O.n al)⟩
theorem Zcu {H : AH} {O : Nat} {D : Value} {af : Fp} {ad : List (Bool × List (Int × Int × Int) × List (Int × Int × Int))} {ak : Int} {al : Int} {e : Int} {r : List (Int × Int × Int)}
    (V : WF H) (Y : Nd Zc 3 H D ad af []) (ag : Row H O [D, i_ ak, i_ al]) (ah : Zag ad ak al e = some r) :
    ACalls Tryz.prog 29 #[pt_ O 0, i_ e] H fun v H' => ∃ (an : Value) (ae : Fp), v = an /\ FrS [] H H' /\ Ow Zc 3 H' an r ae /\ Inn [] H ae := by
 refine ab_ Tryz.func29 ?_
 unfold Zag at ah
 refine sq_ fun aC => g_' (q_ (.slice none 0 0) (Za (aC _ _ (sq_ fun aD => sq_ fun aE => g_' (q_ (pt_ O 0) (q_ (i_ e) ?_))))))
 obtain ⟨ao, ax, am⟩ := bs_ ah
 refine ck_ (ZY V Y ag ax) ?_
 rintro _ _ ⟨rfl, rfl⟩
 refine q_ (.bool (!ao)) (Za (aE _ _ ?_))
 refine wb_ ((!ao)) (fun ab => ?_) fun ab => ?_
 ·have aG := Ze ab am
  refine sq_ fun aA => g_' (q_ (.slice none 0 0) (Za (aA _ _ ?_)))
  refine Zg (Zh ?_)
  refine br_ [.slice none 0 0] ?_
  obtain rfl := oi_ aG
  exact ⟨(.slice none 0 0), [], rfl, (f0_ V), (Ow.nil (by decide)), in_⟩
 have aH := ZL ab am
 refine Zf (aD _ _ (sq_ fun aB => g_' (q_ (pt_ O 0) (q_ (pt_ O 0) (q_ (pt_ O 0) (lr_ 123 0 (D) ag (q_ (i_ e) ?_)))))))
 obtain ⟨U, aI⟩ := Zb aH
 refine Y.ix_ 123 U.1 U.2 (l_' (elp D 3 e.toNat 1) (Zw Tryz.prog 138 (elp D 3 e.toNat 0) 1) (Nd.fldq (d := 1) Y U.1 U.2 (by kernel_rfl)) ?_)
 obtain ⟨aK, aN, aw, av⟩ := Nd.at Y U.1 U.2
 have ai : KdS Zc 3 H aK ((gt ad e).2.1) af D 3 e.toNat 1 := av false (by simp)
 obtain ⟨ap, aF, aq, rfl⟩ := ai.sq.form
 refine l_' (.slice ap aF aq) (aL_ 75 (elp D 3 e.toNat 1) H) (aw _ _ _ _ (by kernel_rfl)) ?_
 obtain ⟨aO, ay, aJ⟩ := bs_ aI
 refine ck_ (ZfQ V ai.sq ay) ?_
 rintro aM aL ⟨_, au, rfl, ar, aj, az⟩
 obtain ⟨Z, ac, aa, rfl⟩ := aj.form
 refine q_ (.slice Z ac aa) (Za (aB _ _ ?_))
 refine Zg ?_
 refine br_ [.slice Z ac aa] ?_
 obtain rfl := oi_ aJ
 exact ⟨(.slice Z ac aa), au, rfl, (fs_ V (f0_ V) ar in_), aj, (az.fresh (Nat.le_refl _))⟩
theorem Zd9 {H : AH} {O : Nat} {D : Value} {af : Fp} {ad : List (Bool × List (Int × Int × Int) × List (Int × Int × Int))} {ak : Int} {al : Int} {e : Int} {r : List (Int × Int × Int)}
    (V : WF H) (Y : Nd Zc 3 H D ad af []) (ag : Row H O [D, i_ ak, i_ al]) (ah : ZaZ ad ak al e = some r) :
    ACalls Tryz.prog 51 #[pt_ O 0, i_ e] H fun v H' => ∃ (an : Value) (ae : Fp), v = an /\ FrS [] H H' /\ Ow Zc 3 H' an r ae /\ Inn [] H ae := by
 refine ab_ Tryz.func51 ?_
 unfold ZaZ at ah
 refine sq_ fun aC => g_' (q_ (.slice none 0 0) (Za (aC _ _ (sq_ fun aD => sq_ fun aE => g_' (q_ (pt_ O 0) (q_ (i_ e) ?_))))))
 obtain ⟨ao, ax, am⟩ := bs_ ah
 refine ck_ (ZY V Y ag ax) ?_
 rintro _ _ ⟨rfl, rfl⟩
 refine q_ (.bool (!ao)) (Za (aE _ _ ?_))
 refine wb_ ((!ao)) (fun ab => ?_) fun ab => ?_
 ·have aG := Ze ab am
  refine sq_ fun aA => g_' (q_ (.slice none 0 0) (Za (aA _ _ ?_)))
  refine Zg (Zh ?_)
  refine br_ [.slice none 0 0] ?_
  obtain rfl := oi_ aG
  exact ⟨(.slice none 0 0), [], rfl, (f0_ V), (Ow.nil (by decide)), in_⟩
 have aH := ZL ab am
 refine Zf (aD _ _ (sq_ fun aB => g_' (q_ (pt_ O 0) (q_ (pt_ O 0) (q_ (pt_ O 0) (lr_ 123 0 (D) ag (q_ (i_ e) ?_)))))))
 obtain ⟨U, aI⟩ := Zb aH
 refine Y.ix_ 123 U.1 U.2 (l_' (elp D 3 e.toNat 2) (Zw Tryz.prog 138 (elp D 3 e.toNat 0) 2) (Nd.fldq (d := 2) Y U.1 U.2 (by kernel_rfl)) ?_)
 obtain ⟨aN, aK, aw, av⟩ := Nd.at Y U.1 U.2
 have ai : KdS Zc 3 H aK ((gt ad e).2.2) af D 3 e.toNat 2 := av true (by simp)
 obtain ⟨ap, aF, aq, rfl⟩ := ai.sq.form
 refine l_' (.slice ap aF aq) (aL_ 75 (elp D 3 e.toNat 2) H) (aw _ _ _ _ (by kernel_rfl)) ?_
 obtain ⟨aO, ay, aJ⟩ := bs_ aI
 refine ck_ (ZfQ V ai.sq ay) ?_
 rintro aM aL ⟨_, au, rfl, ar, aj, az⟩
 obtain ⟨Z, ac, aa, rfl⟩ := aj.form
 refine q_ (.slice Z ac aa) (Za (aB _ _ ?_))
 refine Zg ?_
 refine br_ [.slice Z ac aa] ?_
 obtain rfl := oi_ aJ
 exact ⟨(.slice Z ac aa), au, rfl, (fs_ V (f0_ V) ar in_), aj, (az.fresh (Nat.le_refl _))⟩
theorem ZfY {H : AH} {e : Nat} {Y : Nat} {am : Value} {aA : Fp} {ai : Value} {ab : Fp} {Z : Nat} {ar : List (Bool × List (Int × Int × Int) × List (Int × Int × Int))} {au : Int} {av : Int} {ad : Int} {ae : Int} {aw : List (Int × Int)} {ax : Int -> Option (Int × Int × Int)} {O : Int} {U : Int} {r : List (Int × Int)}
    (af : WF H) (aR : Nd Zc 3 H am ar aA []) (aQ : Row H Y [am, i_ au, i_ av]) (aC : Ow ZA 2 H ai aw ab) (aS : Ms .i64 ZT H Z ax) (ah : Row H e [pt_ Y 0, i_ ad, i_ ae, ai, .map (some Z)]) (aj : Dj ab [e]) (aq : ZcF ar au av ad ae aw ax O U = some r) :
    ACalls Tryz.prog 156 #[pt_ e 3, .iface 186 (.agg #[.int .u64 O, i_ U])] H fun v H' => ∃ (ay : Value) (al : Fp), v = .tuple #[] /\ FrS ([e] ++ ab) H H' /\ Ow ZA 2 H' ay r al /\ Row H' e [pt_ Y 0, i_ ad, i_ ae, ay, .map (some Z)] /\ Inn ab H al := by
 refine ab_ Tryz.func156 ?_
 unfold ZcF at aq
 refine ZQ [0, 1, 2, 3, 4, 5, 6, 7, 8, 9] (by kernel_rfl) ?_
 refine e_' (pt_ e 3) (e_' (pt_ e 3) (e_' (pt_ e 3) (mr_ 105 3 (ai) ah (e_' (.iface 186 (.agg #[.int .u64 O, i_ U])) (e_' (.agg #[.int .u64 O, i_ U]) ?_)))))
 refine Zh1 (enc := ZA) (sz := 2) af [(O, U)] 1 (by decide) (fun _ _ => rfl) (fun _ _ => rfl) rfl (by kernel_rfl) fun aW aP aK D aT ao => ?_
 obtain ⟨aN, aU, aO, rfl⟩ := ao.form
 have aH := (aC.ext D)
 obtain ⟨aB, aF⟩ := Zb aq
 obtain ⟨aV, aL, f23, aD, ag, ap, an⟩ := Ow.append (P := Tryz.prog) 16 D.wf aH ao.sq (fun _ _ => rfl) (at_ := #[105, 105]) rfl rfl (by kernel_rfl) (by kernel_rfl) (by decide) (by have := aB; first | omega | (simp only [List.length_cons, List.length_nil] at this ⊢; omega) | (simp at this ⊢; omega))
 obtain ⟨V, ac, aa, rfl⟩ := ap.form
 refine ZgT (.slice V ac aa) (by kernel_rfl) (aD) (ZF) ?_
 refine e_' (pt_ e 3) ?_
 have aI := ((ah.ext D).frS ag aj)
 obtain ⟨aM, aE, ak, aG⟩ := rb_ 105 3 ag.wf aI (.slice V ac aa) [pt_ Y 0, i_ ad, i_ ae, .slice V ac aa, .map (some Z)]
 refine fk_ aE (ZF) ?_
 refine ZI ?_
 refine Zfk (vs := []) (rfl) ?_
 have az := (an.dj aj (ah.ltF.le D.n))
 have aJ := (ap.fr ak (Dj.symm az))
 obtain rfl := oi_ aF
 exact ⟨(.slice V ac aa), f23, rfl, (fs_ af (fs_ af ((fr_ af).extR D) ag (Inn.right ir_)) ak Inn.left), aJ, aG, (Inn.trans ir_ D.n an)⟩
theorem Zek {H : AH} {e : Value} {O : Fp} {q : List (Int × Int)} {r : Int}
    (V : WF H) (U : Sq ZA 2 H e q O) (D : Za7 q = some r) :
    ACalls Tryz.prog 146 #[e] H fun v H' => v = i_ r /\ H = H' := by
 refine ab_ Tryz.func146 ?_
 unfold Za7 at D
 refine sq_ fun k1 => g_' (q_ (i_ 0) (Za (k1 _ _ (sq_ fun k2 => g_' (q_ (e) (U.ln_ 105 (q_ (i_ (q.length : Int)) (Za (k2 _ _ ?_)))))))))
 refine Zg ?_
 refine br_ [i_ (q.length : Int)] ?_
 obtain rfl := oi_ D
 exact ⟨rfl, rfl⟩
theorem Zdm {H : AH} {e : Value} {ac : Fp} {q : List (Int × Int)} {i : Int} {j : Int} {r : Bool}
    (ah : WF H) (U : Sq ZA 2 H e q ac) (Z : Zai q i j = some r) :
    ACalls Tryz.prog 147 #[e, i_ i, i_ j] H fun v H' => v = .bool r /\ H = H' := by
 refine ab_ Tryz.func147 ?_
 unfold Zai at Z
 refine sq_ fun k1 => g_' (q_ (.bool false) (Za (k1 _ _ (sq_ fun k2 => ?_))))
 refine ZQ [0, 1, 2, 3, 4, 5, 6, 7, 8, 9, 10, 11, 12, 13, 14, 15, 16, 17, 18, 19, 20, 21, 22, 23, 24, 25, 26, 27, 28, 29, 30, 31, 32, 33, 34, 35, 36, 37] (by kernel_rfl) ?_
 refine e_' (e) (e_' (i_ i) ?_)
 obtain ⟨D, af⟩ := Zb Z
 refine U.mx_ 105 D.1 D.2 (m_' (elp e 2 i.toNat 0) (Zw Tryz.prog 186 (elp e 2 i.toNat 0) 0) (Sq.fldq (d := 0) U D.1 D.2 (by kernel_rfl)) (me_ 27 0 (.int .u64 ((gt q i).1)) U D.1 D.2 (e_' (e) (e_' (i_ j) ?_))))
 obtain ⟨O, aa⟩ := Zb af
 refine U.mx_ 105 O.1 O.2 (m_' (elp e 2 j.toNat 0) (Zw Tryz.prog 186 (elp e 2 j.toNat 0) 0) (Sq.fldq (d := 0) U O.1 O.2 (by kernel_rfl)) (me_ 27 0 (.int .u64 ((gt q j).1)) U O.1 O.2 ?_))
 refine db_ (((gt q i).1) < ((gt q j).1)) (fun Y => ?_) fun Y => ?_
 ·have ag := Ze Y aa
  refine e_' (.bool true) (j_' (j_' (j_' (j_' (j_' (j_' (j_' (j_' (j_' (j_' (j_' (j_' (j_' (j_' (j_' (j_' (j_' (j_' (j_' (j_' (j_' (j_' (j_' (j_' (e_' (.bool true) (e_' (.bool true) ?_))))))))))))))))))))))))))
  refine ZI ?_
  refine k2 _ _ ?_
  refine Zg ?_
  refine br_ [.bool true] ?_
  obtain rfl := oi_ ag
  exact ⟨rfl, rfl⟩
 have ab := Zi Y aa
 refine e_' (.bool false) (e_' (e) (e_' (i_ i) (U.mx_ 105 D.1 D.2 (m_' (elp e 2 i.toNat 0) (Zw Tryz.prog 186 (elp e 2 i.toNat 0) 0) (Sq.fldq (d := 0) U D.1 D.2 (by kernel_rfl)) (me_ 27 0 (.int .u64 ((gt q i).1)) U D.1 D.2 (e_' (e) (e_' (i_ j) (U.mx_ 105 O.1 O.2 (m_' (elp e 2 j.toNat 0) (Zw Tryz.prog 186 (elp e 2 j.toNat 0) 0) (Sq.fldq (d := 0) U O.1 O.2 (by kernel_rfl)) (me_ 27 0 (.int .u64 ((gt q j).1)) U O.1 O.2 ?_))))))))))
 refine db_ (((gt q i).1) = ((gt q j).1)) (fun V => ?_) fun V => ?_
 ·have ad := Ze V ab
  refine e_' (.bool true) (e_' (e) (e_' (i_ i) (U.mx_ 105 D.1 D.2 (m_' (elp e 2 i.toNat 1) (Zw Tryz.prog 186 (elp e 2 i.toNat 0) 1) (Sq.fldq (d := 1) U D.1 D.2 (by kernel_rfl)) (me_ 3 1 (i_ ((gt q i).2)) U D.1 D.2 (e_' (e) (e_' (i_ j) (U.mx_ 105 O.1 O.2 (m_' (elp e 2 j.toNat 1) (Zw Tryz.prog 186 (elp e 2 j.toNat 0) 1) (Sq.fldq (d := 1) U O.1 O.2 (by kernel_rfl)) (me_ 3 1 (i_ ((gt q j).2)) U O.1 O.2 (e_' (.bool (decide (((gt q i).2) < ((gt q j).2)))) (e_' (.bool (decide (((gt q i).2) < ((gt q j).2)))) (e_' (.bool (decide (((gt q i).2) < ((gt q j).2)))) (e_' (.bool (decide (((gt q i).2) < ((gt q j).2)))) ?_))))))))))))))
  refine ZI ?_
  refine k2 _ _ ?_
  refine Zg ?_
  refine br_ [.bool (decide (((gt q i).2) < ((gt q j).2)))] ?_
  obtain rfl := oi_ ad
  exact ⟨rfl, rfl⟩
 have ae := Zi V ab
 refine e_' (.bool false) (j_' (j_' (j_' (j_' (j_' (j_' (j_' (j_' (j_' (j_' (j_' (e_' (.bool false) (e_' (.bool false) (e_' (.bool false) ?_))))))))))))))
 refine ZI ?_
 refine k2 _ _ ?_
 refine Zg ?_
 refine br_ [.bool false] ?_
 obtain rfl := oi_ ae
 exact ⟨rfl, rfl⟩
theorem Zdk {H : AH} {D : Value} {Y : Fp} {q : List (Int × Int)} {i : Int} {j : Int} {r : List (Int × Int)}
    (V : WF H) (U : Ow ZA 2 H D q Y) (ac : Zaj q i j = some r) :
    ACalls Tryz.prog 148 #[D, i_ i, i_ j] H fun v H' => v = .tuple #[] /\ FrS Y H H' /\ Ow ZA 2 H' D r Y := by
 refine ab_ Tryz.func148 ?_
 unfold Zaj at ac
 refine ZQ [0, 1, 2, 3, 4, 5, 6, 7, 8, 9, 10, 11, 12, 13, 14, 15] (by kernel_rfl) ?_
 refine e_' (D) (e_' (i_ i) (e_' (D) (e_' (i_ j) (e_' (D) (e_' (i_ j) ?_)))))
 obtain ⟨O, ai⟩ := Zb ac
 refine U.sq.mx_ 105 O.1 O.2 (me_ 186 0 (.agg #[.int .u64 ((gt q j).1), i_ ((gt q j).2)]) U.sq O.1 O.2 (e_' (D) (e_' (i_ i) ?_)))
 obtain ⟨e, aj⟩ := Zb ai
 refine U.sq.mx_ 105 e.1 e.2 (me_ 186 0 (.agg #[.int .u64 ((gt q i).1), i_ ((gt q i).2)]) U.sq e.1 e.2 (U.sq.mx_ 105 e.1 e.2 ?_))
 obtain ⟨al, ag, Z, ab⟩ := Ow.store (P := Tryz.prog) (t := 186) (off := 0) V U e.1 e.2 (.agg #[.int .u64 ((gt q j).1), i_ ((gt q j).2)]) [.int .u64 ((gt q j).1), i_ ((gt q j).2)] (by kernel_rfl) (by kernel_rfl) rfl ((gt q j).1, (gt q j).2) (Nat.le_of_ble_eq_true rfl) (by kernel_rfl)
 refine fk_ ag (ZF) ?_
 obtain ⟨aa, ah⟩ := Zb aj
 refine ab.sq.mx_ 105 O.1 aa ?_
 obtain ⟨ak, af, ad, ae⟩ := Ow.store (P := Tryz.prog) (t := 186) (off := 0) Z.wf ab O.1 aa (.agg #[.int .u64 ((gt q i).1), i_ ((gt q i).2)]) [.int .u64 ((gt q i).1), i_ ((gt q i).2)] (by kernel_rfl) (by kernel_rfl) rfl ((gt q i).1, (gt q i).2) (Nat.le_of_ble_eq_true rfl) (by kernel_rfl)
 refine fk_ af (ZF) ?_
 refine ZI ?_
 refine Zfk (vs := []) (rfl) ?_
 obtain rfl := oi_ ah
 exact ⟨rfl, (fs_ V (fs_ V (fr_ V) Z ir_) ad ir_), ae⟩
theorem Zgk {H : AH} {D : Nat} {ai : Nat} {au : Value} {aJ : Fp} {O : Value} {U : Fp} {aj : Nat} {al : List (Bool × List (Int × Int × Int) × List (Int × Int × Int))} {am : Int} {an : Int} {ao : Int} {ap : Int} {af : List (Int × Int)} {aq : Int -> Option (Int × Int × Int)} {j : Int} {r : List (Int × Int)}
    (V : WF H) (bl : Nd Zc 3 H au al aJ []) (bk : Row H ai [au, i_ am, i_ an]) (aM : Ow ZA 2 H O af U) (bm : Ms .i64 ZT H aj aq) (ar : Row H D [pt_ ai 0, i_ ao, i_ ap, O, .map (some aj)]) (ak : Dj U [D]) (az : Zb7 al am an ao ap af aq j = some r) :
    ACalls Tryz.prog 104 #[.iface 184 (pt_ D 3), i_ j] H fun v H' => v = .tuple #[] /\ FrS U H H' /\ Ow ZA 2 H' O r U := by
 refine ab_ Tryz.func104 ?_
 unfold Zb7 at az
 obtain ⟨aD, aP, bb⟩ := bs_ az
 refine ZC (fun α ac => Has α [] /\ FrS U H ac /\ Ow ZA 2 ac O aD U) (fun _ aS => ?_) (fun α ac hM => ?_)
 ·refine Zm ?_
  obtain ⟨aC, aO⟩ := Zu.1 aP
  refine ZJ (fun n α Z => ∃ (aa : List (Int × Int)), ∃ (e : Int), ZR (fun zz_ => Zbk zz_.1 zz_.2) n (aa, e) = some aD /\ Has α [(0, .iface 184 (pt_ D 3)), (1, i_ e)] /\ FrS U H Z /\ Ow ZA 2 Z O aa U) aC ⟨af, j, aO, ha_, (fr_ V), aM⟩ ?_
  rintro aC α Z ⟨aa, e, aN, aw, Y, ag⟩ bj aT
  obtain ⟨a1, bh, rfl, ab, ay⟩ := Zy aN
  obtain ⟨β, rfl⟩ := Zk aw
  clear aw
  replace ab : Zbk aa e = some bh := ab
  unfold Zbk at ab
  refine Zm (sq_ fun aU => g_' (q_ (i_ e) ?_))
  obtain ⟨aK, a2⟩ := Zb ab
  refine w_' ((e - 1)) (Zn aK) ?_
  obtain ⟨aL, a6⟩ := Zb a2
  refine w_' ((Int.tdiv (e - 1) 2)) (Zn aL) (q_ (i_ (Int.tdiv (e - 1) 2)) (Za (aU _ _ (sq_ fun aV => sq_ fun aW => ?_))))
  obtain ⟨aE, aA, aF⟩ := bs_ a6
  refine ZC (fun α ah => Has α [(0, .iface 184 (pt_ D 3)), (1, i_ e), (4, i_ (Int.tdiv (e - 1) 2)), (17, .bool aE)] /\ Z = ah) (fun _ aB => ?_) (fun α ah hM => ?_)
  ·refine g_' (q_ (i_ (Int.tdiv (e - 1) 2)) (q_ (i_ e) ?_))
   refine sb_ ((Int.tdiv (e - 1) 2) = e) (fun ad => ?_) fun ad => ?_
   ·have a7 := Ze ad aA
    refine q_ (.bool true) (n_' (n_' (n_' (n_' (n_' (q_ (.bool true) (Za ?_)))))))
    obtain rfl := oi_ a7
    exact aB _ _ ⟨ha_, rfl⟩
   have a8 := Zi ad aA
   refine q_ (.bool false) (q_ (.iface 184 (pt_ D 3)) (q_ (i_ e) (q_ (i_ (Int.tdiv (e - 1) 2)) ?_)))
   obtain ⟨aG, aQ, a_⟩ := bs_ a8
   have be := (ar.frS Y ak)
   refine Zgu 147 105 ⟨D, 3, none⟩ #[i_ e, i_ (Int.tdiv (e - 1) 2)] (O) #[O, i_ e, i_ (Int.tdiv (e - 1) 2)] (by kernel_rfl) (by kernel_rfl) (be.l_) (Zdm Y.wf ag.sq aQ) ?_
   rintro _ _ ⟨rfl, rfl⟩
   refine q_ (.bool (!aG)) (q_ (.bool (!aG)) (Za ?_))
   obtain rfl := oi_ a_
   exact aB _ _ ⟨ha_, rfl⟩
  obtain ⟨ax, rfl⟩ := hM
  obtain ⟨β, rfl⟩ := Zk ax
  clear ax
  refine aW _ _ ?_
  refine wb_ (aE) (fun ae => ?_) fun ae => ?_
  ·have ba := Ze ae aF
   refine ZK (Zj (ZiT (by decide) (Zj (ZV ?_))))
   obtain rfl := oi_ ba
   obtain rfl := Zx ay
   exact aS _ _ ⟨trivial, (fs_ V (fr_ V) Y ir_), ag⟩
  have bc := ZL ae aF
  refine Zf (aV _ _ (sq_ fun aX => g_' (q_ (.iface 184 (pt_ D 3)) (q_ (i_ (Int.tdiv (e - 1) 2)) (q_ (i_ e) ?_)))))
  obtain ⟨bg, aR, bd⟩ := bs_ bc
  have bf := (ar.frS Y ak)
  refine Zgu 148 105 ⟨D, 3, none⟩ #[i_ (Int.tdiv (e - 1) 2), i_ e] (O) #[O, i_ (Int.tdiv (e - 1) 2), i_ e] (by kernel_rfl) (by kernel_rfl) (bf.l_) (Zdk Y.wf ag aR) ?_
  rintro _ bi ⟨rfl, aH, aY⟩
  refine Za (aX _ _ (g_' (q_ (i_ (Int.tdiv (e - 1) 2)) (q_ (i_ (Int.tdiv (e - 1) 2)) (Za ?_)))))
  obtain rfl := oi_ bd
  exact aT a1 _ _ lt_ ⟨bg, (Int.tdiv (e - 1) 2), ay, ha_, (fs_ V (fs_ V (fr_ V) Y ir_) aH ir_), aY⟩
 obtain ⟨av, aI, aZ⟩ := hM
 obtain ⟨β, rfl⟩ := Zk av
 clear av
 refine Zfk (vs := []) (rfl) ?_
 obtain rfl := oi_ bb
 exact ⟨rfl, (fs_ V (fr_ V) aI ir_), aZ⟩
theorem ZfC {H : AH} {e : Nat} {U : Nat} {az : Value} {ac : Fp} {aA : Value} {D : Fp} {V : Nat} {ao : List (Bool × List (Int × Int × Int) × List (Int × Int × Int))} {ap : Int} {aq : Int} {ad : Int} {ae : Int} {ar : List (Int × Int)} {au : Int -> Option (Int × Int × Int)} {ab : Int} {aj : Int} {r : List (Int × Int)}
    (Y : WF H) (ax : Nd Zc 3 H az ao ac []) (aw : Row H U [az, i_ ap, i_ aq]) (aL : Ow ZA 2 H aA ar D) (ay : Ms .i64 ZT H V au) (av : Row H e [pt_ U 0, i_ ad, i_ ae, aA, .map (some V)]) (al : Dj D [e]) (aI : Dj D ac) (aF : Dj [e] ac) (aG : Dj D [U]) (aD : Dj [e] [U]) (aH : Dj D [V]) (aE : Dj [e] [V]) (aB : Zbx ao ap aq ad ae ar au ab aj = some r) :
    ACalls Tryz.prog 88 #[.iface 184 (pt_ e 3), .iface 186 (.agg #[.int .u64 ab, i_ aj])] H fun v H' => ∃ (aC : Value) (an : Fp), v = .tuple #[] /\ FrS ([e] ++ D) H H' /\ Ow ZA 2 H' aC r an /\ Row H' e [pt_ U 0, i_ ad, i_ ae, aC, .map (some V)] /\ Inn D H an := by
 refine ab_ Tryz.func88 ?_
 unfold Zbx at aB
 refine sq_ fun aP => g_' (q_ (.iface 184 (pt_ e 3)) (q_ (.iface 186 (.agg #[.int .u64 ab, i_ aj])) ?_))
 obtain ⟨a8, aM, aR⟩ := bs_ aB
 refine ck_ (ZfY Y ax aw aL ay av al aM) ?_
 rintro _ a1 ⟨a6, aJ, rfl, O, ag, ah, af⟩
 obtain ⟨Z, ai, aa, rfl⟩ := ag.form
 refine Za (aP _ _ (g_' (q_ (.iface 184 (pt_ e 3)) (q_ (.iface 184 (pt_ e 3)) ?_))))
 obtain ⟨aZ, aN, aS⟩ := bs_ aR
 refine Zgu 146 105 ⟨e, 3, none⟩ #[] (.slice Z ai aa) #[.slice Z ai aa] (by kernel_rfl) (by kernel_rfl) (ah.l_) (Zek O.wf ag.sq aN) ?_
 rintro _ _ ⟨rfl, rfl⟩
 obtain ⟨aK, aT⟩ := Zb aS
 refine w_' ((aZ - 1)) (Zn aK) ?_
 have aV := (ax.fr O (Dj.app aF aI))
 have aW := (aw.frS O (Dj.app aD aG))
 have aX := (ay.frS O (Dj.app aE aH))
 have ak := (af.dj al av.ltF)
 obtain ⟨a7, aO, aU⟩ := bs_ aT
 refine ck_ (Zgk O.wf aV aW ag aX ah ak aO) ?_
 rintro _ a2 ⟨rfl, am, aQ⟩
 refine Za ?_
 refine Zfk (vs := []) (rfl) ?_
 have aY := (ah.frS am ak)
 obtain rfl := oi_ aU
 exact ⟨(.slice Z ai aa), aJ, rfl, (fs_ Y (fs_ Y (fr_ Y) O ir_) am (Inn.trans (Inn.right ir_) (Nat.le_refl _) af)), aQ, aY, (Inn.trans ir_ (Nat.le_refl _) af)⟩
theorem Zey {H : AH} {e : Nat} {aa : Nat} {ak : Value} {ac : Fp} {al : Value} {Y : Fp} {D : Nat} {ar : List (Bool × List (Int × Int × Int) × List (Int × Int × Int))} {au : Int} {av : Int} {ag : Int} {ah : Int} {aw : List (Int × Int)} {ax : Int -> Option (Int × Int × Int)} {Z : Int} {O : Int} {hops : Int} {ab : Int} {r : (Int -> Option (Int × Int × Int)) × List (Int × Int)}
    (ad : WF H) (aO : Nd Zc 3 H ak ar ac []) (aN : Row H aa [ak, i_ au, i_ av]) (aP : Ow ZA 2 H al aw Y) (aj : Ms .i64 ZT H D ax) (aM : Row H e [pt_ aa 0, i_ ag, i_ ah, al, .map (some D)]) (aE : Dj [D] ac) (aD : Dj [D] [aa]) (af : Dj [D] Y) (ae : Dj [D] [e]) (aH : Dj Y [e]) (aJ : Dj Y ac) (aG : Dj [e] ac) (aI : Dj Y [aa]) (aF : Dj [e] [aa]) (am : Zbz ar au av ag ah aw ax Z O hops ab = some r) :
    ACalls Tryz.prog 64 #[pt_ e 0, i_ Z, .agg #[.int .u64 O, i_ hops, i_ ab]] H fun v H' => ∃ (aq : Value) (f6 : Fp), v = .tuple #[] /\ FrS ([e] ++ ([D] ++ Y)) H H' /\ Ms .i64 ZT H' D r.1 /\ Ow ZA 2 H' aq r.2 f6 /\ Row H' e [pt_ aa 0, i_ ag, i_ ah, aq, .map (some D)] /\ Inn Y H f6 := by
 refine ab_ Tryz.func64 ?_
 unfold Zbz at am
 refine sq_ fun aT => g_' ?_
 refine rl_ ad [.int .u64 O, i_ hops, i_ ab] fun aA bb U aQ ap => ?_
 refine Za (aT _ _ (sq_ fun aU => ?_))
 refine ZQ [0, 1, 2, 3, 4, 5, 6] (by kernel_rfl) ?_
 refine e_' (pt_ e 0) (e_' (pt_ e 0) (e_' (pt_ e 4) ?_))
 have ay := (aM.ext U)
 refine mr_ 103 4 (.map (some D)) ay (e_' (i_ Z) (mr_ 110 0 (.agg #[.int .u64 O, i_ hops, i_ ab]) ap ?_))
 have a1 := (aj.ext U)
 obtain ⟨bc, aY, aK, ao⟩ := a1.put (P := Tryz.prog) U.wf (t := 103) (zv := .agg #[.int .u64 0, i_ 0, i_ 0]) (val := .agg #[.int .u64 O, i_ hops, i_ ab]) (by kernel_rfl) Z (O, hops, ab) rfl
 have V := aK.frS (W := [D]) (List.mem_singleton.2 rfl)
 refine fk_ aY (ZF) ?_
 refine ZI ?_
 refine aU _ _ ?_
 refine ZQ [0, 1, 2, 3, 4, 5, 6, 7, 8, 9] (by kernel_rfl) ?_
 refine e_' (pt_ e 0) (e_' (pt_ e 0) (e_' (pt_ e 3) (e_' (.iface 184 (pt_ e 3)) (e_' (pt_ aA 0) ?_))))
 have aC := (aQ.djn aj.ltF)
 have a2 := (ap.frS V (Dj.symm aC))
 refine mr_ 27 0 (.int .u64 O) a2 (e_' (i_ Z) (e_' (.agg #[.int .u64 O, i_ Z]) (e_' (.iface 186 (.agg #[.int .u64 O, i_ Z])) ?_)))
 have a6 := ((aO.ext U).fr V aE)
 have a7 := ((aN.ext U).frS V aD)
 have a8 := ((aP.ext U).fr V af)
 have a_ := (ay.frS V ae)
 obtain ⟨bf, aR, aZ⟩ := bs_ am
 refine dk_ (ZfC V.wf a6 a7 a8 ao a_ aH aJ aG aI aF (Dj.symm af) (Dj.symm ae) aR) ?_
 rintro _ bd ⟨be, aL, rfl, ai, an, aV, aS⟩
 obtain ⟨az, aW, aB, rfl⟩ := an.form
 refine ⟨ZF, ?_⟩
 refine ZI ?_
 refine Zfk (vs := []) (rfl) ?_
 have ba := (ao.frS ai (Dj.app (Dj.symm ae) (Dj.symm af)))
 have aX := (t_ U.n V.n)
 obtain rfl := oi_ aZ
 exact ⟨(.slice az aW aB), aL, rfl, (fs_ ad (fs_ ad ((fr_ ad).extR U) V (Inn.right Inn.left)) ai (Inn.app Inn.left (Inn.right (Inn.right ir_)))), ba, an, aV, (Inn.trans ir_ aX aS)⟩
theorem ZfK {H : AH} {O : Nat} {au : Nat} {aE : Value} {a2 : Fp} {V : Value} {ab : Fp} {av : Nat} {ax : List (Bool × List (Int × Int × Int) × List (Int × Int × Int))} {ay : Int} {az : Int} {aA : Int} {aB : Int} {an : List (Int × Int)} {aC : Int -> Option (Int × Int × Int)} {D : Int} {U : Int} {r : Bool × List (Int × Int)}
    (Z : WF H) (bX : Nd Zc 3 H aE ax a2 []) (bW : Row H au [aE, i_ ay, i_ az]) (a_ : Ow ZA 2 H V an ab) (bY : Ms .i64 ZT H av aC) (aD : Row H O [pt_ au 0, i_ aA, i_ aB, V, .map (some av)]) (aw : Dj ab [O]) (aK : Zbv ax ay az aA aB an aC D U = some r) :
    ACalls Tryz.prog 105 #[.iface 184 (pt_ O 3), i_ D, i_ U] H fun v H' => v = .bool r.1 /\ FrS ab H H' /\ Ow ZA 2 H' V r.2 ab := by
 refine ab_ Tryz.func105 ?_
 unfold Zbv at aK
 refine sq_ fun k3 => g_' (q_ (.bool false) (Za (k3 _ _ (sq_ fun bk => g_' (q_ (i_ D) (q_ (i_ D) (Za (bk _ _ (sq_ fun bn => ?_)))))))))
 obtain ⟨ac, bc, bM⟩ := bs_ aK
 refine ZC (fun α ah => Has α [(1, i_ D), (7, i_ ac.1)] /\ FrS ab H ah /\ Ow ZA 2 ah V ac.2 ab) (fun _ aO => ?_) (fun α ah hM => ?_)
 ·refine Zm ?_
  obtain ⟨aS, bb⟩ := Zu.1 bc
  refine ZJ (fun n α ad => ∃ (af : List (Int × Int)), ∃ (e : Int), ZR (fun zz_ => ZaP U zz_.1 zz_.2) n (af, e) = some ac /\ Has α [(0, .iface 184 (pt_ O 3)), (1, i_ D), (2, i_ U), (7, i_ e)] /\ FrS ab H ad /\ Ow ZA 2 ad V af ab) aS ⟨an, D, bb, ha_, (fr_ Z), a_⟩ ?_
  rintro aS α ad ⟨af, e, ba, aG, aa, ae⟩ bV bg
  obtain ⟨bw, bT, rfl, ag, ao⟩ := Zy ba
  obtain ⟨β, rfl⟩ := Zk aG
  clear aG
  replace ag : ZaP U af e = some bT := ag
  unfold ZaP at ag
  refine Zm (sq_ fun bh => g_' (q_ (i_ e) ?_))
  obtain ⟨a6, bx⟩ := Zb ag
  refine w_' ((2 * e)) (Zn a6) ?_
  obtain ⟨a7, bz⟩ := Zb bx
  refine w_' (((2 * e) + 1)) (Zn a7) (q_ (i_ ((2 * e) + 1)) (Za (bh _ _ (sq_ fun bi => sq_ fun bj => ?_))))
  obtain ⟨aT, aL, aV⟩ := bs_ bz
  refine ZC (fun α ap => Has α [(0, .iface 184 (pt_ O 3)), (1, i_ D), (2, i_ U), (7, i_ e), (8, i_ ((2 * e) + 1)), (21, .bool aT)] /\ ad = ap) (fun _ aP => ?_) (fun α ap hM => ?_)
  ·refine g_' (q_ (i_ ((2 * e) + 1)) (q_ (i_ U) ?_))
   refine sb_ (((2 * e) + 1) ≥ U) (fun ai => ?_) fun ai => ?_
   ·have bA := Ze ai aL
    refine q_ (.bool true) (n_' (n_' (q_ (.bool true) (Za ?_))))
    obtain rfl := oi_ bA
    exact aP _ _ ⟨ha_, rfl⟩
   have bB := Zi ai aL
   refine q_ (.bool false) (q_ (i_ ((2 * e) + 1)) (q_ (.bool (decide (((2 * e) + 1) < 0))) (q_ (.bool (decide (((2 * e) + 1) < 0))) (Za ?_))))
   obtain rfl := oi_ bB
   exact aP _ _ ⟨ha_, rfl⟩
  obtain ⟨aH, rfl⟩ := hM
  obtain ⟨β, rfl⟩ := Zk aH
  clear aH
  refine bj _ _ ?_
  refine wb_ (aT) (fun aj => ?_) fun aj => ?_
  ·have bC := Ze aj aV
   refine ZK (Zj (ZiT (by decide) (Zj (ZV ?_))))
   obtain rfl := oi_ bC
   obtain rfl := Zx ao
   exact aO _ _ ⟨ha_, (fs_ Z (fr_ Z) aa ir_), ae⟩
  have bD := ZL aj aV
  refine Zf (bi _ _ (sq_ fun bl => g_' (q_ (i_ ((2 * e) + 1)) (q_ (i_ ((2 * e) + 1)) (Za (bl _ _ (sq_ fun bm => sq_ fun bo => g_' (q_ (i_ ((2 * e) + 1)) ?_))))))))
  obtain ⟨a8, bE⟩ := Zb bD
  refine w_' ((((2 * e) + 1) + 1)) (Zn a8) (q_ (i_ (((2 * e) + 1) + 1)) (Za (bo _ _ (sq_ fun bp => ?_))))
  obtain ⟨aU, aM, bF⟩ := bs_ bE
  refine ZC (fun α aq => Has α [(0, .iface 184 (pt_ O 3)), (1, i_ D), (2, i_ U), (7, i_ e), (9, i_ ((2 * e) + 1)), (10, i_ (((2 * e) + 1) + 1)), (33, .bool aU)] /\ ad = aq) (fun _ aQ => ?_) (fun α aq hM => ?_)
  ·refine g_' (q_ (i_ (((2 * e) + 1) + 1)) (q_ (i_ U) ?_))
   refine sb_ ((((2 * e) + 1) + 1) < U) (fun ak => ?_) fun ak => ?_
   ·have bG := Ze ak aM
    refine q_ (.bool true) (q_ (.iface 184 (pt_ O 3)) (q_ (i_ (((2 * e) + 1) + 1)) (q_ (i_ ((2 * e) + 1)) ?_)))
    obtain ⟨bR, bd, bH⟩ := bs_ bG
    have bQ := (aD.frS aa aw)
    refine Zgu 147 105 ⟨O, 3, none⟩ #[i_ (((2 * e) + 1) + 1), i_ ((2 * e) + 1)] (V) #[V, i_ (((2 * e) + 1) + 1), i_ ((2 * e) + 1)] (by kernel_rfl) (by kernel_rfl) (bQ.l_) (Zdm aa.wf ae.sq bd) ?_
    rintro _ _ ⟨rfl, rfl⟩
    refine q_ (.bool bR) (Za ?_)
    obtain rfl := oi_ bH
    exact aQ _ _ ⟨ha_, rfl⟩
   have bI := Zi ak aM
   refine q_ (.bool false) (n_' (n_' (n_' (n_' (q_ (.bool false) (Za ?_))))))
   obtain rfl := oi_ bI
   exact aQ _ _ ⟨ha_, rfl⟩
  obtain ⟨aI, rfl⟩ := hM
  obtain ⟨β, rfl⟩ := Zk aI
  clear aI
  refine bp _ _ ?_
  obtain ⟨Y, aN, bJ⟩ := bs_ bF
  refine ZC (fun α ar => Has α [(0, .iface 184 (pt_ O 3)), (1, i_ D), (2, i_ U), (7, i_ e), (9, i_ Y)] /\ ad = ar) (fun _ aR => ?_) (fun α ar hM => ?_)
  ·refine wb_ (aU) (fun al => ?_) fun al => ?_
   ·have bK := Ze al aN
    refine g_' (q_ (i_ (((2 * e) + 1) + 1)) (q_ (i_ (((2 * e) + 1) + 1)) (Za ?_)))
    obtain rfl := oi_ bK
    exact aR _ _ ⟨ha_, rfl⟩
   have bL := ZL al aN
   refine Zf ?_
   obtain rfl := oi_ bL
   exact aR _ _ ⟨ha_, rfl⟩
  obtain ⟨aJ, rfl⟩ := hM
  obtain ⟨β, rfl⟩ := Zk aJ
  clear aJ
  refine bm _ _ (sq_ fun bq => sq_ fun br => g_' (q_ (.iface 184 (pt_ O 3)) (q_ (i_ Y) (q_ (i_ e) ?_))))
  obtain ⟨aY, be, aW⟩ := bs_ bJ
  have aX := (aD.frS aa aw)
  refine Zgu 147 105 ⟨O, 3, none⟩ #[i_ Y, i_ e] (V) #[V, i_ Y, i_ e] (by kernel_rfl) (by kernel_rfl) (aX.l_) (Zdm aa.wf ae.sq be) ?_
  rintro _ _ ⟨rfl, rfl⟩
  refine q_ (.bool (!aY)) (Za (br _ _ ?_))
  refine wb_ ((!aY)) (fun am => ?_) fun am => ?_
  ·have bN := Ze am aW
   refine ZK (Zj (ZiT (by decide) (Zj (ZV ?_))))
   obtain rfl := oi_ bN
   obtain rfl := Zx ao
   exact aO _ _ ⟨ha_, (fs_ Z (fr_ Z) aa ir_), ae⟩
  have bO := ZL am aW
  refine Zf (bq _ _ (sq_ fun bs => g_' (q_ (.iface 184 (pt_ O 3)) (q_ (i_ e) (q_ (i_ Y) ?_)))))
  obtain ⟨bS, bf, bP⟩ := bs_ bO
  refine Zgu 148 105 ⟨O, 3, none⟩ #[i_ e, i_ Y] (V) #[V, i_ e, i_ Y] (by kernel_rfl) (by kernel_rfl) (aX.l_) (Zdk aa.wf ae bf) ?_
  rintro _ bU ⟨rfl, a1, bv⟩
  refine Za (bs _ _ (g_' (q_ (i_ Y) (q_ (i_ Y) (Za ?_)))))
  obtain rfl := oi_ bP
  exact bg bw _ _ lt_ ⟨bS, Y, ao, ha_, (fs_ Z (fs_ Z (fr_ Z) aa ir_) a1 ir_), bv⟩
 obtain ⟨aF, aZ, bu⟩ := hM
 obtain ⟨β, rfl⟩ := Zk aF
 clear aF
 refine bn _ _ (sq_ fun bt => g_' (q_ (i_ ac.1) (q_ (i_ D) (q_ (.bool (decide (ac.1 > D))) (q_ (.bool (decide (ac.1 > D))) (Za (bt _ _ ?_)))))))
 refine Zg ?_
 refine br_ [.bool (decide (ac.1 > D))] ?_
 obtain rfl := oi_ bM
 exact ⟨rfl, (fs_ Z (fr_ Z) aZ ir_), bu⟩
end Go.Vd

/-! (KSn2) -/

set_option maxRecDepth 100000
set_option maxHeartbeats 4000000
set_option linter.unusedVariables false
namespace Go.Vd
open Go.Proofs
attribute [local irreducible] Zp Zr aWp
theorem Zgg {H : AH} {D : Nat} {Z : Nat} {an : Value} {aA : Fp} {V : Value} {al : Fp} {aa : Nat} {aq : List (Bool × List (Int × Int × Int) × List (Int × Int × Int))} {ar : Int} {au : Int} {ah : Int} {ai : Int} {e : List (Int × Int)} {av : Int -> Option (Int × Int × Int)} {r : Int × Int × List (Int × Int)}
    (aj : WF H) (aY : Nd Zc 3 H an aq aA []) (aX : Row H Z [an, i_ ar, i_ au]) (U : Ow ZA 2 H V e al) (aZ : Ms .i64 ZT H aa av) (O : Row H D [pt_ Z 0, i_ ah, i_ ai, V, .map (some aa)]) (az : Dj [D] al) (ao : ZcX aq ar au ah ai e av = some r) :
    ACalls Tryz.prog 155 #[pt_ D 3] H fun v H' => ∃ (aw : Value), v = .iface 186 (.agg #[.int .u64 r.1, i_ r.2.1]) /\ FrS [D] H H' /\ Ow ZA 2 H' aw r.2.2 al /\ Row H' D [pt_ Z 0, i_ ah, i_ ai, aw, .map (some aa)] := by
 refine ab_ Tryz.func155 ?_
 unfold ZcX at ao
 refine sq_ fun aF => g_' (q_ (.nilIface) (Za (aF _ _ (sq_ fun aG => g_' (q_ (pt_ D 3) (q_ (pt_ D 3) (lr_ 105 3 (V) O (U.sq.ln_ 105 ?_))))))))
 obtain ⟨aB, aP⟩ := Zb ao
 refine w_' (((e.length : Int) - 1)) (Zn aB) (q_ (i_ ((e.length : Int) - 1)) (Za (aG _ _ (sq_ fun aC => g_' (q_ (pt_ D 3) (q_ (pt_ D 3) (lr_ 105 3 (V) O (q_ (i_ ((e.length : Int) - 1)) ?_))))))))
 obtain ⟨ae, aK⟩ := Zb aP
 refine U.sq.ix_ 105 ae.1 ae.2 (le_ 186 0 (.agg #[.int .u64 ((gt e ((e.length : Int) - 1)).1), i_ ((gt e ((e.length : Int) - 1)).2)]) U.sq ae.1 ae.2 ?_)
 refine rk_ aj [.int .u64 0, i_ 0] fun aW aT ac af aL => ?_
 obtain ⟨aU, aH, ad, aM⟩ := ra_ 186 0 ac.wf aL [.int .u64 ((gt e ((e.length : Int) - 1)).1), i_ ((gt e ((e.length : Int) - 1)).2)] [.int .u64 ((gt e ((e.length : Int) - 1)).1), i_ ((gt e ((e.length : Int) - 1)).2)]
 refine ek_ aH (Za (aC _ _ (sq_ fun aD => g_' (q_ (pt_ D 3) (q_ (pt_ D 3) (q_ (pt_ D 3) ?_))))))
 have ax := ((O.ext ac).frS ad (af.djn O.ltF))
 refine lr_ 105 3 (V) ax (q_ (i_ ((e.length : Int) - 1)) ?_)
 obtain ⟨am, aN⟩ := Zb aK
 have aQ := ((U.ext ac).fr ad (af.djn U.lt))
 obtain ⟨a1, aI, ap⟩ := Ow.head (P := Tryz.prog) aQ (t := 105) (by kernel_rfl) (hi := (some (i_ ((e.length : Int) - 1)))) (r := ((e.length : Int) - 1).toNat) (ZcH _ (by have := am; omega)) (by have := am; omega)
 obtain ⟨Y, ag, ab, rfl⟩ := ap.form
 refine Zbg (.slice Y ag ab) (by kernel_rfl) aI ?_
 refine q_ (pt_ D 3) ?_
 obtain ⟨aV, aJ, ak, aO⟩ := rb_ 105 3 ad.wf ax (.slice Y ag ab) [pt_ Z 0, i_ ah, i_ ai, .slice Y ag ab, .map (some aa)]
 refine ek_ aJ (Za (aD _ _ (sq_ fun aE => g_' ?_)))
 have ay := (af.djn O.ltF)
 have aR := (aM.frS ak (Dj.symm ay))
 refine lr_ 186 0 (.agg #[.int .u64 ((gt e ((e.length : Int) - 1)).1), i_ ((gt e ((e.length : Int) - 1)).2)]) aR (q_ (.iface 186 (.agg #[.int .u64 ((gt e ((e.length : Int) - 1)).1), i_ ((gt e ((e.length : Int) - 1)).2)])) (q_ (.iface 186 (.agg #[.int .u64 ((gt e ((e.length : Int) - 1)).1), i_ ((gt e ((e.length : Int) - 1)).2)])) (Za (aE _ _ ?_))))
 refine Zg ?_
 refine br_ [.iface 186 (.agg #[.int .u64 ((gt e ((e.length : Int) - 1)).1), i_ ((gt e ((e.length : Int) - 1)).2)])] ?_
 have aS := (ap.fr ak az)
 obtain rfl := oi_ aN
 exact ⟨(.slice Y ag ab), rfl, (fs_ aj (fs_ aj ((fr_ aj).extR ac) ad (af.fresh (Nat.le_refl _))) ak ir_), aS, aO⟩
theorem ZfZ {H : AH} {e : Nat} {ab : Nat} {au : Value} {al : Fp} {O : Value} {D : Fp} {ac : Nat} {am : List (Bool × List (Int × Int × Int) × List (Int × Int × Int))} {an : Int} {ao : Int} {ae : Int} {af : Int} {ap : List (Int × Int)} {aq : Int -> Option (Int × Int × Int)} {r : Int × Int × List (Int × Int) × List (Int × Int)}
    (Y : WF H) (aH : Nd Zc 3 H au am al []) (aG : Row H ab [au, i_ an, i_ ao]) (ar : Ow ZA 2 H O ap D) (aI : Ms .i64 ZT H ac aq) (ag : Row H e [pt_ ab 0, i_ ae, i_ af, O, .map (some ac)]) (aj : Dj D al) (ah : Dj D [ab]) (ai : Dj D [ac]) (aa : Dj D [e]) (av : ZbW am an ao ae af ap aq = some r) :
    ACalls Tryz.prog 89 #[.iface 184 (pt_ e 3)] H fun v H' => ∃ (ay : Value), v = .iface 186 (.agg #[.int .u64 r.1, i_ r.2.1]) /\ FrS ([e] ++ D) H H' /\ Ow ZA 2 H' O r.2.2.1 D /\ Ow ZA 2 H' ay r.2.2.2 D /\ Row H' e [pt_ ab 0, i_ ae, i_ af, ay, .map (some ac)] := by
 refine ab_ Tryz.func89 ?_
 unfold ZbW at av
 refine sq_ fun aQ => g_' (q_ (.nilIface) (Za (aQ _ _ (sq_ fun aR => g_' (q_ (.iface 184 (pt_ e 3)) ?_)))))
 obtain ⟨Z, aJ, aV⟩ := bs_ av
 refine Zgu 146 105 ⟨e, 3, none⟩ #[] (O) #[O] (by kernel_rfl) (by kernel_rfl) (ag.l_) (Zek Y ar.sq aJ) ?_
 rintro _ _ ⟨rfl, rfl⟩
 obtain ⟨aF, aW⟩ := Zb aV
 refine w_' ((Z - 1)) (Zn aF) (q_ (i_ (Z - 1)) (Za (aR _ _ (sq_ fun aN => g_' (q_ (.iface 184 (pt_ e 3)) (q_ (i_ (Z - 1)) ?_))))))
 obtain ⟨bd, aK, aX⟩ := bs_ aW
 refine Zgu 148 105 ⟨e, 3, none⟩ #[i_ 0, i_ (Z - 1)] (O) #[O, i_ 0, i_ (Z - 1)] (by kernel_rfl) (by kernel_rfl) (ag.l_) (Zdk Y ar aK) ?_
 rintro _ a_ ⟨rfl, U, aS⟩
 refine Za (aN _ _ (sq_ fun aO => g_' (q_ (.iface 184 (pt_ e 3)) (q_ (i_ (Z - 1)) ?_))))
 have az := (aH.fr U aj)
 have aA := (aG.frS U ah)
 have aB := (aI.frS U ai)
 have aC := (ag.frS U aa)
 obtain ⟨be, aL, aY⟩ := bs_ aX
 refine ck_ (ZfK U.wf az aA aS aB aC aa aL) ?_
 rintro _ ba ⟨rfl, V, aw⟩
 refine Za (aO _ _ (sq_ fun aP => g_' (q_ (.iface 184 (pt_ e 3)) ?_)))
 have a1 := (az.fr V aj)
 have a2 := (aA.frS V ah)
 have a6 := (aB.frS V ai)
 have a7 := (aC.frS V aa)
 obtain ⟨ad, aM, aZ⟩ := bs_ aY
 refine ck_ (Zgg V.wf a1 a2 aw a6 a7 (Dj.symm aa) aM) ?_
 rintro _ bb ⟨bc, rfl, ak, ax, aT⟩
 obtain ⟨aD, aU, aE, rfl⟩ := ax.form
 refine q_ (.iface 186 (.agg #[.int .u64 ad.1, i_ ad.2.1])) (Za (aP _ _ ?_))
 refine Zg ?_
 refine br_ [.iface 186 (.agg #[.int .u64 ad.1, i_ ad.2.1])] ?_
 have a8 := (aw.fr ak (Dj.symm aa))
 obtain rfl := oi_ aZ
 exact ⟨(.slice aD aU aE), rfl, (fs_ Y (fs_ Y (fs_ Y (fr_ Y) U (Inn.right ir_)) V (Inn.right ir_)) ak Inn.left), a8, ax, aT⟩
theorem Zgl {H : AH} {U : Nat} {aj : Nat} {bc : Value} {aM : Fp} {aQ : Value} {ad : Fp} {ag : Nat} {aA : List (Bool × List (Int × Int × Int) × List (Int × Int × Int))} {aB : Int} {aC : Int} {al : Int} {am : Int} {aY : List (Int × Int)} {D : Int -> Option (Int × Int × Int)} {r : Int × Int × Int × Int × Bool × List (Int × Int)}
    (af : WF H) (bW : Nd Zc 3 H bc aA aM []) (bV : Row H aj [bc, i_ aB, i_ aC]) (ah : Ow ZA 2 H aQ aY ad) (bb : Ms .i64 ZT H ag D) (ak : Row H U [pt_ aj 0, i_ al, i_ am, aQ, .map (some ag)]) (ba : Dj ad aM) (a_ : Dj ad [aj]) (aI : Dj ad [ag]) (bU : Dj ad [U]) (a8 : Dj [U] [ag]) (bT : Dj [U] aM) (bS : Dj [U] [aj]) (bf : Zb6 aA aB aC al am aY D = some r) :
    ACalls Tryz.prog 65 #[pt_ U 0] H fun v H' => ∃ (bu : Value), v = .tuple #[i_ r.1, .agg #[.int .u64 r.2.1, i_ r.2.2.1, i_ r.2.2.2.1], .bool r.2.2.2.2.1] /\ FrS ([U] ++ ad) H H' /\ Ow ZA 2 H' bu r.2.2.2.2.2 ad /\ Row H' U [pt_ aj 0, i_ al, i_ am, bu, .map (some ag)] := by
 refine ab_ Tryz.func65 ?_
 unfold Zb6 at bf
 refine sq_ fun cf => g_' (q_ (i_ 0) ?_)
 refine rk_ af [.int .u64 0, i_ 0, i_ 0] fun av aZ O an az => ?_
 refine q_ (.bool false) (Za (cf _ _ (sq_ fun b9 => ?_)))
 obtain ⟨bx, b5, bp⟩ := bs_ bf
 refine ZC (fun α ar => ∃ aU, bx = Sum.inr aU /\ ∃ (aW : Value), Has α [(3, pt_ av 0)] /\ FrS ([U] ++ ad) aZ ar /\ Ow ZA 2 ar aW aU ad /\ Row ar U [pt_ aj 0, i_ al, i_ am, aW, .map (some ag)]) (fun _ ca => ?_) (fun α ar hM => ?_)
 ·refine Zm ?_
  obtain ⟨bm, bY⟩ := Zu.1 b5
  have cQ := (ah.ext O)
  have cR := (ak.ext O)
  refine ZJ (fun n α au => ∃ (ap : List (Int × Int)), ∃ (aX : Value), ZR (fun zz_ => Zbf aA aB aC al am D zz_) n ap = some bx /\ Has α [(0, pt_ U 0), (3, pt_ av 0)] /\ FrS ([U] ++ ad) aZ au /\ Ow ZA 2 au aX ap ad /\ Row au U [pt_ aj 0, i_ al, i_ am, aX, .map (some ag)]) bm ⟨aY, (aQ), bY, ha_, (fr_ O.wf), cQ, cR⟩ ?_
  rintro bm α au ⟨ap, aX, bX, be, V, ax, aR⟩ cZ bh
  obtain ⟨bn, z39, rfl, aq, aw⟩ := Zy bX
  obtain ⟨β, rfl⟩ := Zk be
  clear be
  replace aq : Zbf aA aB aC al am D ap = some z39 := aq
  unfold Zbf at aq
  obtain ⟨a45, bo, a2, rfl⟩ := ax.form
  refine sq_ fun cc => sq_ fun cd => g_' (q_ (pt_ U 0) (q_ (pt_ U 0) (q_ (pt_ U 3) (lr_ 105 3 (.slice a45 bo a2) aR (ax.sq.ln_ 105 (q_ (.bool (decide ((ap.length : Int) > 0))) (Za (cd _ _ ?_))))))))
  refine wc_ ((ap.length : Int) > 0) (fun aO => ?_) fun aO => ?_
  ·have cE := Ze aO aq
   refine Zf (cc _ _ (Zm (sq_ fun ce => g_' (q_ (pt_ U 0) (q_ (pt_ U 0) (q_ (pt_ U 3) (q_ (.iface 184 (pt_ U 3)) ?_)))))))
   have cS := ((bW.ext O).fr V (Dj.app bT ba))
   have cT := ((bV.ext O).frS V (Dj.app bS a_))
   have bv := ((bb.ext O).frS V (Dj.app a8 aI))
   obtain ⟨e, b6, bq⟩ := bs_ cE
   refine ck_ (ZfZ V.wf cS cT ax bv aR ba a_ aI bU b6) ?_
   rintro _ cV ⟨c3, rfl, Z, c0, ay, ci⟩
   obtain ⟨a66, aT, aF, rfl⟩ := ay.form
   refine q_ (.agg #[.int .u64 e.1, i_ e.2.1]) ?_
   refine rk_ Z.wf [.int .u64 0, i_ 0] fun aE cW aa ai br => ?_
   obtain ⟨bB, cv, Y, bs⟩ := ra_ 186 0 aa.wf br [.int .u64 e.1, i_ e.2.1] [.int .u64 e.1, i_ e.2.1]
   refine ek_ cv (Za (ce _ _ (sq_ fun cg => ?_)))
   refine ZQ [0, 1, 2, 3, 4, 5, 6, 7, 8] (by kernel_rfl) ?_
   refine e_' (pt_ U 0) (e_' (pt_ U 0) (e_' (pt_ U 4) ?_))
   have ao := (t_ (t_ O.n V.n) Z.n)
   have bP := (ai.djn (ak.ltF.le ao))
   have aD := ((ci.ext aa).frS Y bP)
   refine mr_ 103 4 (.map (some ag)) aD (e_' (pt_ aE 1) (mr_ 3 1 (i_ e.2.1) bs ?_))
   have bQ := (ai.djn (bb.ltF.le ao))
   have cU := (((bv.frS Z (Dj.app a8 aI)).ext aa).frS Y bQ)
   refine m_' (.agg #[.int .u64 (((D e.2.1).getD ((0, 0, 0) : Int × Int × Int)).1), i_ (((D e.2.1).getD ((0, 0, 0) : Int × Int × Int)).2.1), i_ (((D e.2.1).getD ((0, 0, 0) : Int × Int × Int)).2.2)]) (Zdb Tryz.prog 103 (.map (some ag)) (i_ e.2.1) false bB) (cU.look ((0, 0, 0) : Int × Int × Int) (zv := .agg #[.int .u64 0, i_ 0, i_ 0]) rfl (by kernel_rfl) (by kernel_rfl) _ rfl) ?_
   refine ZkI Y.wf [.int .u64 0, i_ 0, i_ 0] (by kernel_rfl) fun a1 cX ab ae cF => ?_
   obtain ⟨cY, cw, ac, aV⟩ := ra_ 110 0 ab.wf cF [.int .u64 (((D e.2.1).getD ((0, 0, 0) : Int × Int × Int)).1), i_ (((D e.2.1).getD ((0, 0, 0) : Int × Int × Int)).2.1), i_ (((D e.2.1).getD ((0, 0, 0) : Int × Int × Int)).2.2)] [.int .u64 (((D e.2.1).getD ((0, 0, 0) : Int × Int × Int)).1), i_ (((D e.2.1).getD ((0, 0, 0) : Int × Int × Int)).2.1), i_ (((D e.2.1).getD ((0, 0, 0) : Int × Int × Int)).2.2)]
   refine fk_ cw (ZF) ?_
   refine ZI ?_
   refine cg _ _ (sq_ fun bi => g_' (q_ (pt_ a1 2) (lr_ 3 2 (i_ (((D e.2.1).getD ((0, 0, 0) : Int × Int × Int)).2.2)) aV ?_)))
   refine sb_ ((((D e.2.1).getD ((0, 0, 0) : Int × Int × Int)).2.2) = 0) (fun aP => ?_) fun aP => ?_
   ·have bt := Ze aP bq
    refine q_ (.bool true) (q_ (pt_ a1 0) (lr_ 27 0 (.int .u64 (((D e.2.1).getD ((0, 0, 0) : Int × Int × Int)).1)) aV (q_ (pt_ aE 0) ?_)))
    have bR := (ae.djn (br.ltF.le Y.n))
    have bw := ((bs.ext ab).frS ac bR)
    refine lr_ 27 0 (.int .u64 e.1) bw (q_ (.bool (decide ((((D e.2.1).getD ((0, 0, 0) : Int × Int × Int)).1) = e.1))) (q_ (.bool (decide ((((D e.2.1).getD ((0, 0, 0) : Int × Int × Int)).1) = e.1))) (Za (bi _ _ ?_))))
    refine wc_ ((((D e.2.1).getD ((0, 0, 0) : Int × Int × Int)).1) = e.1) (fun aN => ?_) fun aN => ?_
    ·have cx := Ze aN bt
     refine sq_ fun b8 => ?_
     refine ZQ [0, 1, 2, 3, 4, 5] (by kernel_rfl) ?_
     refine e_' (pt_ aE 1) (mr_ 3 1 (i_ e.2.1) bw (mr_ 110 0 (.agg #[.int .u64 (((D e.2.1).getD ((0, 0, 0) : Int × Int × Int)).1), i_ (((D e.2.1).getD ((0, 0, 0) : Int × Int × Int)).2.1), i_ (((D e.2.1).getD ((0, 0, 0) : Int × Int × Int)).2.2)]) aV (e_' (i_ e.2.1) ?_)))
     have aG := (an.djn ah.lt)
     have aH := (an.djn ak.ltF)
     have cj := (t_ V.n Z.n)
     have bE := (ai.djn (az.ltF.le cj))
     have ck := (t_ (t_ (t_ V.n Z.n) aa.n) Y.n)
     have bF := (ae.djn (az.ltF.le ck))
     have cG := ((((((az.frS V (Dj.app (Dj.symm aH) (Dj.symm aG))).frS Z (Dj.app (Dj.symm aH) (Dj.symm aG))).ext aa).frS Y bE).ext ab).frS ac bF)
     obtain ⟨bz, cr, aJ, cy⟩ := ra_ 110 0 ac.wf cG [.int .u64 (((D e.2.1).getD ((0, 0, 0) : Int × Int × Int)).1), i_ (((D e.2.1).getD ((0, 0, 0) : Int × Int × Int)).2.1), i_ (((D e.2.1).getD ((0, 0, 0) : Int × Int × Int)).2.2)] [.int .u64 (((D e.2.1).getD ((0, 0, 0) : Int × Int × Int)).1), i_ (((D e.2.1).getD ((0, 0, 0) : Int × Int × Int)).2.1), i_ (((D e.2.1).getD ((0, 0, 0) : Int × Int × Int)).2.2)]
     refine fk_ cr (ZF) (e_' (.bool true) ?_)
     refine ZI ?_
     refine b8 _ _ ?_
     refine Zg (ZN (Zh (ZN (Zh (Zh ?_)))))
     obtain ⟨c4, bg, b7⟩ := map_some cx
     subst b7
     obtain rfl := Zx aw
     have bZ := elim_inl bp
     rw [bZ] at bg
     refine Z3 (vs := [i_ e.2.1, .agg #[.int .u64 (((D e.2.1).getD ((0, 0, 0) : Int × Int × Int)).1), i_ (((D e.2.1).getD ((0, 0, 0) : Int × Int × Int)).2.1), i_ (((D e.2.1).getD ((0, 0, 0) : Int × Int × Int)).2.2)], .bool true]) (ZbU (by kernel_rfl) (ZM (Eq.trans (b := aL_ 110 (pt_ av 0) bz) (by kernel_rfl) (cy.l_)) (rt_ (rfl)))) ?_
     have aS := (t_ (t_ (t_ (t_ O.n V.n) Z.n) aa.n) Y.n)
     have bG := (ai.djn (ah.lt.le ao))
     have bH := (ae.djn (ah.lt.le aS))
     have cH := (((((ay.ext aa).fr Y bG).ext ab).fr ac bH).fr aJ aG)
     have bI := (ae.djn (ak.ltF.le aS))
     have cI := (((aD.ext ab).frS ac bI).frS aJ aH)
     obtain rfl := oi_ bg
     exact ⟨(.slice a66 aT aF), rfl, (fs_ af (fs_ af ((fs_ af ((fs_ af (fs_ af ((fr_ af).extR O) V ir_) Z ir_).extR aa) Y (ai.fresh ao)).extR ab) ac (ae.fresh aS)) aJ (an.fresh (Nat.le_refl _))), cH, cI⟩
    have cz := Zi aN bt
    refine Zf ?_
    have cm := (t_ V.n Z.n)
    have cn := (t_ (t_ (t_ V.n Z.n) aa.n) Y.n)
    have bJ := (ai.djn (ah.lt.le ao))
    have bk := (t_ (t_ (t_ (t_ O.n V.n) Z.n) aa.n) Y.n)
    have bK := (ae.djn (ah.lt.le bk))
    have cJ := ((((ay.ext aa).fr Y bJ).ext ab).fr ac bK)
    have bL := (ae.djn (ak.ltF.le bk))
    have cK := ((aD.ext ab).frS ac bL)
    obtain rfl := oi_ cz
    exact bh bn _ _ lt_ ⟨e.2.2.2, (.slice a66 aT aF), aw, ha_, (fs_ O.wf ((fs_ O.wf ((fs_ O.wf (fs_ O.wf (fr_ O.wf) V ir_) Z ir_).extR aa) Y (ai.fresh cm)).extR ab) ac (ae.fresh cn)), cJ, cK⟩
   have cA := Zi aP bq
   refine q_ (.bool false) (n_' (n_' (n_' (n_' (n_' (q_ (.bool false) (Za (bi _ _ ?_))))))))
   refine wb_ false (fun h => by cases h) fun _ => ?_
   refine Zf ?_
   have co := (t_ V.n Z.n)
   have cp := (t_ (t_ (t_ V.n Z.n) aa.n) Y.n)
   have bM := (ai.djn (ah.lt.le ao))
   have bl := (t_ (t_ (t_ (t_ O.n V.n) Z.n) aa.n) Y.n)
   have bN := (ae.djn (ah.lt.le bl))
   have cL := ((((ay.ext aa).fr Y bM).ext ab).fr ac bN)
   have bO := (ae.djn (ak.ltF.le bl))
   have cM := ((aD.ext ab).frS ac bO)
   obtain rfl := oi_ cA
   exact bh bn _ _ lt_ ⟨e.2.2.2, (.slice a66 aT aF), aw, ha_, (fs_ O.wf ((fs_ O.wf ((fs_ O.wf (fs_ O.wf (fr_ O.wf) V ir_) Z ir_).extR aa) Y (ai.fresh co)).extR ab) ac (ae.fresh cp)), cL, cM⟩
  have cB := Zi aO aq
  refine ZK (Zj (Zj (ZV ?_)))
  obtain rfl := oi_ cB
  obtain rfl := Zx aw
  exact ca _ _ ⟨_, rfl, (.slice a45 bo a2), ha_, (fs_ O.wf (fr_ O.wf) V ir_), ax, aR⟩
 obtain ⟨aU, rfl, aW, bd, aL, bj, ch⟩ := hM
 have cC := elim_inr bp
 obtain ⟨β, rfl⟩ := Zk bd
 clear bd
 obtain ⟨bC, cq, bD, rfl⟩ := bj.form
 refine b9 _ _ (sq_ fun b_ => g_' (q_ (.agg #[.int .u64 0, i_ 0, i_ 0]) (q_ (i_ 0) ?_)))
 have a6 := (an.djn ah.lt)
 have a7 := (an.djn ak.ltF)
 have cN := (az.frS aL (Dj.app (Dj.symm a7) (Dj.symm a6)))
 obtain ⟨bA, cu, aK, cD⟩ := ra_ 110 0 aL.wf cN [.int .u64 0, i_ 0, i_ 0] [.int .u64 0, i_ 0, i_ 0]
 refine ek_ cu (q_ (.bool false) (Za (b_ _ _ ?_)))
 refine Zg ?_
 refine Z3 (vs := [i_ 0, .agg #[.int .u64 0, i_ 0, i_ 0], .bool false]) (ZbU (by kernel_rfl) (ZM (Eq.trans (b := aL_ 110 (pt_ av 0) bA) (by kernel_rfl) (cD.l_)) (rt_ (rfl)))) ?_
 have cO := (bj.fr aK a6)
 have cP := (ch.frS aK a7)
 obtain rfl := oi_ cC
 exact ⟨(.slice bC cq bD), rfl, (fs_ af (fs_ af ((fr_ af).extR O) aL ir_) aK (an.fresh (Nat.le_refl _))), cO, cP⟩
theorem Zfz {H : AH} {V : Nat} {au : Nat} {bF : Value} {aN : Fp} {aP : Value} {ak : Fp} {ag : Nat} {aW : List (Bool × List (Int × Int × Int) × List (Int × Int × Int))} {aX : Int} {aY : Int} {aw : Int} {ar : Int} {bk : List (Int × Int)} {bl : Int -> Option (Int × Int × Int)} {aD : Int} {ad : Int} {hops : Int} {bm : Int} {r : (Int -> Option (Int × Int × Int)) × List (Int × Int)}
    (ax : WF H) (aB : Nd Zc 3 H bF aW aN []) (aA : Row H au [bF, i_ aX, i_ aY]) (aC : Ow ZA 2 H aP bk ak) (ap : Ms .i64 ZT H ag bl) (an : Row H V [pt_ au 0, i_ aw, i_ ar, aP, .map (some ag)]) (bx : Dj [ag] [V]) (bz : Dj [ag] ak) (a6 : Dj [ag] aN) (a2 : Dj [ag] [au]) (c5 : Dj ak [V]) (bD : Dj ak aN) (bB : Dj [V] aN) (bC : Dj ak [au]) (bA : Dj [V] [au]) (c6 : Dj ak [ag]) (bc : Zbo aW aX aY aw ar bk bl aD ad hops bm = some r) :
    ACalls Tryz.prog 66 #[pt_ V 0, i_ aD, .agg #[.int .u64 ad, i_ hops, i_ bm]] H fun v H' => ∃ (b_ : Value) (f6 : Fp), v = .tuple #[] /\ FrS ([V] ++ ([ag] ++ ak)) H H' /\ Ms .i64 ZT H' ag r.1 /\ Ow ZA 2 H' b_ r.2 f6 /\ Row H' V [pt_ au 0, i_ aw, i_ ar, b_, .map (some ag)] /\ Inn ak H f6 := by
 refine ab_ Tryz.func66 ?_
 unfold Zbo at bc
 refine sq_ fun dn => g_' ?_
 refine rl_ ax [.int .u64 ad, i_ hops, i_ bm] fun az eJ ah ao bh => ?_
 refine Za (dn _ _ (sq_ fun dv => g_' (q_ (pt_ az 2) ?_)))
 obtain ⟨eN, d2, ae, b9⟩ := rb_ 3 2 ah.wf bh (i_ 1) [.int .u64 ad, i_ hops, i_ 1]
 refine ek_ d2 (Za (dv _ _ (sq_ fun dw => ?_)))
 refine ZQ [0, 1, 2, 3, 4, 5, 6] (by kernel_rfl) ?_
 refine e_' (pt_ V 0) (e_' (pt_ V 0) (e_' (pt_ V 4) ?_))
 have ce := ((an.ext ah).frS ae (ao.djn an.ltF))
 refine mr_ 103 4 (.map (some ag)) ce (e_' (i_ aD) (mr_ 110 0 (.agg #[.int .u64 ad, i_ hops, i_ 1]) b9 ?_))
 have eC := ((ap.ext ah).frS ae (ao.djn ap.ltF))
 obtain ⟨eO, d3, c8, bQ⟩ := eC.put (P := Tryz.prog) ae.wf (t := 103) (zv := .agg #[.int .u64 0, i_ 0, i_ 0]) (val := .agg #[.int .u64 ad, i_ hops, i_ 1]) (by kernel_rfl) aD (ad, hops, 1) rfl
 have af := c8.frS (W := [ag]) (List.mem_singleton.2 rfl)
 refine fk_ d3 (ZF) ?_
 refine ZI ?_
 refine dw _ _ (sq_ fun dx => sq_ fun dy => ?_)
 refine ZQ [0, 1, 2, 3, 4, 5, 6] (by kernel_rfl) ?_
 refine e_' (pt_ az 1) ?_
 have bw := (ao.djn ap.ltF)
 have cf := (b9.frS af (Dj.symm bw))
 refine mr_ 3 1 (i_ hops) cf (e_' (pt_ V 0) (e_' (pt_ V 0) (e_' (pt_ V 2) ?_)))
 have a1 := (ce.frS af bx)
 refine mr_ 3 2 (i_ ar) a1 (e_' (.bool (decide (hops ≥ ar))) ?_)
 refine ZI ?_
 refine dy _ _ ?_
 refine wc_ (hops ≥ ar) (fun ba => ?_) fun ba => ?_
 ·have el := Ze ba bc
  refine Zg (Zh ?_)
  refine Z3 (vs := []) (rfl) ?_
  have eD := (((aC.ext ah).fr ae (ao.djn aC.lt)).fr af bz)
  obtain rfl := oi_ el
  exact ⟨(aP), ak, rfl, (fs_ ax (fs_ ax ((fr_ ax).extR ah) ae (ao.fresh (Nat.le_refl _))) af (Inn.right Inn.left)), bQ, eD, a1, ir_⟩
 have em := Zi ba bc
 refine Zf (dx _ _ (sq_ fun dz => g_' (q_ (pt_ V 0) (q_ (pt_ V 0) (q_ (pt_ V 0) (lr_ 29 0 (pt_ au 0) a1 (q_ (i_ aD) ?_)))))))
 have cg := (((aB.ext ah).fr ae (ao.djn aB.lt)).fr af a6)
 have ch := (((aA.ext ah).frS ae (ao.djn aA.ltF)).frS af a2)
 obtain ⟨D, di, eo⟩ := bs_ em
 refine ck_ (Zcu af.wf cg ch di) ?_
 rintro eS aL ⟨_, f46, rfl, U, be, bd⟩
 obtain ⟨bq, bT, bu, rfl⟩ := be.form
 refine be.sq.ln_ 75 (q_ (i_ 0) (Za (dz _ _ ?_)))
 obtain ⟨bg, dg, ep⟩ := bs_ eo
 refine ZC (fun α aE => ∃ (bi : Value) (aM : Fp), Has α [] /\ FrS ([V] ++ ([ag] ++ ak)) aL aE /\ Ms .i64 ZT aE ag bg.1 /\ Ow ZA 2 aE bi bg.2 aM /\ Row aE V [pt_ au 0, i_ aw, i_ ar, bi, .map (some ag)] /\ Inn ak aL aM) (fun _ dA => ?_) (fun α aE hM => ?_)
 ·refine Zm ?_
  obtain ⟨bU, df⟩ := Zu.1 dg
  have eE := ((((aC.ext ah).fr ae (ao.djn aC.lt)).fr af bz).fr U dn_)
  have eF := (bQ.frS U dn_)
  have eG := (a1.frS U dn_)
  refine ZJ (fun n α aF => ∃ (aK : List (Int × Int)), ∃ (O : Int -> Option (Int × Int × Int)), ∃ (e : Int), ∃ (bj : Value), ∃ (aH : Fp), ZR (fun zz_ => ZaQ aW aX aY aw ar ad hops D zz_.1 zz_.2.1 zz_.2.2) n (aK, O, e) = some bg /\ Has α [(0, pt_ V 0), (5, pt_ az 0), (30, .slice bq bT bu), (31, i_ (D.length : Int)), (32, i_ e)] /\ FrS ([V] ++ ([ag] ++ ak)) aL aF /\ Ow ZA 2 aF bj aK aH /\ Ms .i64 ZT aF ag O /\ Row aF V [pt_ au 0, i_ aw, i_ ar, bj, .map (some ag)] /\ Inn ak aL aH) bU ⟨bk, (fun x => if x = aD then some (ad, hops, 1) else bl x), 0, (aP), ak, df, ha_, (fr_ U.wf), eE, eF, eG, ir_⟩ ?_
  rintro bU α aF ⟨aK, O, e, bj, aH, de, bI, ac, aq, bO, bP, ay⟩ eQ bL
  obtain ⟨bV, eH, rfl, aJ, bb⟩ := Zy de
  obtain ⟨β, rfl⟩ := Zk bI
  clear bI
  replace aJ : ZaQ aW aX aY aw ar ad hops D aK O e = some eH := aJ
  unfold ZaQ at aJ
  obtain ⟨br, bW, bv, rfl⟩ := aq.form
  refine sq_ fun dB => g_' (q_ (.bool (decide (e < (D.length : Int)))) (Za (dB _ _ (sq_ fun dC => ?_))))
  refine wc_ (e < (D.length : Int)) (fun aI => ?_) fun aI => ?_
  ·have d4 := Ze aI aJ
   refine Zf (dC _ _ (sq_ fun bK => Zm (sq_ fun dp => g_' ?_)))
   obtain ⟨bE, d5⟩ := Zb d4
   have bf := (t_ (t_ ah.n ae.n) af.n)
   have cq := (bd.djn (aC.lt.le bf))
   have cr := (bd.djn (ap.ltF.le bf))
   have cu := (bd.djn (an.ltF.le bf))
   have ca := (be.fr ac (Dj.app (Dj.symm cu) (Dj.app (Dj.symm cr) (Dj.symm cq))))
   refine ca.sq.ix_ 75 bE aI (le_ 80 0 (.agg #[i_ ((gt D e).1), .int .u64 ((gt D e).2.1), i_ ((gt D e).2.2)]) ca.sq bE aI ?_)
   refine rk_ ac.wf [i_ 0, .int .u64 0, i_ 0] fun aG eI Z av aV => ?_
   obtain ⟨cj, dZ, Y, bY⟩ := ra_ 80 0 Z.wf aV [i_ ((gt D e).1), .int .u64 ((gt D e).2.1), i_ ((gt D e).2.2)] [i_ ((gt D e).1), .int .u64 ((gt D e).2.1), i_ ((gt D e).2.2)]
   refine ek_ dZ (Za (dp _ _ (sq_ fun dq => ?_)))
   refine ZQ [0, 1, 2, 3, 4, 5, 6, 7, 8, 9, 10, 11, 12] (by kernel_rfl) ?_
   refine e_' (pt_ V 0) (e_' (pt_ V 0) (e_' (pt_ V 4) ?_))
   have aR := (t_ (t_ (t_ (t_ ah.n ae.n) af.n) U.n) ac.n)
   have cv := (av.djn (an.ltF.le aR))
   have aZ := ((bP.ext Z).frS Y cv)
   refine mr_ 103 4 (.map (some ag)) aZ (e_' (pt_ aG 0) (mr_ 3 0 (i_ ((gt D e).1)) bY ?_))
   have cw := (av.djn (ap.ltF.le aR))
   have bn := ((bO.ext Z).frS Y cw)
   refine m_' (.tuple #[.agg #[.int .u64 (((O ((gt D e).1)).getD ((0, 0, 0) : Int × Int × Int)).1), i_ (((O ((gt D e).1)).getD ((0, 0, 0) : Int × Int × Int)).2.1), i_ (((O ((gt D e).1)).getD ((0, 0, 0) : Int × Int × Int)).2.2)], .bool ((O ((gt D e).1)).isSome)]) (Zdb Tryz.prog 103 (.map (some ag)) (i_ ((gt D e).1)) true cj) (bn.look2 ((0, 0, 0) : Int × Int × Int) (zv := .agg #[.int .u64 0, i_ 0, i_ 0]) rfl (by kernel_rfl) (by kernel_rfl) _ rfl) (e_' (.tuple #[.agg #[.int .u64 (((O ((gt D e).1)).getD ((0, 0, 0) : Int × Int × Int)).1), i_ (((O ((gt D e).1)).getD ((0, 0, 0) : Int × Int × Int)).2.1), i_ (((O ((gt D e).1)).getD ((0, 0, 0) : Int × Int × Int)).2.2)], .bool ((O ((gt D e).1)).isSome)]) (e_' (.agg #[.int .u64 (((O ((gt D e).1)).getD ((0, 0, 0) : Int × Int × Int)).1), i_ (((O ((gt D e).1)).getD ((0, 0, 0) : Int × Int × Int)).2.1), i_ (((O ((gt D e).1)).getD ((0, 0, 0) : Int × Int × Int)).2.2)]) (e_' (.bool ((O ((gt D e).1)).isSome)) ?_)))
   refine ZkI Y.wf [.int .u64 0, i_ 0, i_ 0] (by kernel_rfl) fun bs eK ab am bZ => ?_
   obtain ⟨eL, d0, aa, d6⟩ := ra_ 110 0 ab.wf bZ [.int .u64 (((O ((gt D e).1)).getD ((0, 0, 0) : Int × Int × Int)).1), i_ (((O ((gt D e).1)).getD ((0, 0, 0) : Int × Int × Int)).2.1), i_ (((O ((gt D e).1)).getD ((0, 0, 0) : Int × Int × Int)).2.2)] [.int .u64 (((O ((gt D e).1)).getD ((0, 0, 0) : Int × Int × Int)).1), i_ (((O ((gt D e).1)).getD ((0, 0, 0) : Int × Int × Int)).2.1), i_ (((O ((gt D e).1)).getD ((0, 0, 0) : Int × Int × Int)).2.2)]
   refine fk_ d0 (ZF) (e_' (.bool ((O ((gt D e).1)).isSome)) ?_)
   refine ZI ?_
   refine dq _ _ (sq_ fun dr => g_' (q_ (pt_ az 0) ?_))
   have cx := (ao.djn aC.lt)
   have cy := (ao.djn an.ltF)
   have dH := (t_ (t_ (t_ ae.n af.n) U.n) ac.n)
   have cz := (av.djn (bh.ltF.le dH))
   have dI := (t_ (t_ (t_ (t_ (t_ ae.n af.n) U.n) ac.n) Z.n) Y.n)
   have cA := (am.djn (bh.ltF.le dI))
   have cc := ((((((cf.frS U dn_).frS ac (Dj.app (Dj.symm cy) (Dj.app (Dj.symm bw) (Dj.symm cx)))).ext Z).frS Y cz).ext ab).frS aa cA)
   refine lr_ 27 0 (.int .u64 ad) cc (q_ (pt_ aG 1) ?_)
   have cB := (am.djn (aV.ltF.le Y.n))
   have bo := ((bY.ext ab).frS aa cB)
   refine lr_ 27 1 (.int .u64 ((gt D e).2.1)) bo ?_
   obtain ⟨da, d7⟩ := Zb d5
   refine s_w ((ad + ((gt D e).2.1))) (k := .u64) (x := (ad + ((gt D e).2.1))) (by kernel_rfl) (Zdw da) ?_
   refine q_ (pt_ az 1) (lr_ 3 1 (i_ hops) cc ?_)
   obtain ⟨db, d8⟩ := Zb d7
   refine w_' ((hops + 1)) (Zn db) (q_ (.agg #[.int .u64 (ad + ((gt D e).2.1)), i_ (hops + 1), i_ 0]) ?_)
   refine rk_ aa.wf [.int .u64 0, i_ 0, i_ 0] fun bt eM ai al d9 => ?_
   obtain ⟨ck, d1, aj, b5⟩ := ra_ 110 0 ai.wf d9 [.int .u64 (ad + ((gt D e).2.1)), i_ (hops + 1), i_ 0] [.int .u64 (ad + ((gt D e).2.1)), i_ (hops + 1), i_ 0]
   refine ek_ d1 (Za (dr _ _ (sq_ fun dt => sq_ fun du => ?_)))
   obtain ⟨bX, bJ, b6⟩ := bs_ d8
   refine ZC (fun α bp => Has α [(0, pt_ V 0), (5, pt_ az 0), (7, pt_ aG 0), (10, pt_ bt 0), (30, .slice bq bT bu), (31, i_ (D.length : Int)), (32, i_ e), (76, .bool bX)] /\ ck = bp) (fun _ aQ => ?_) (fun α bp hM => ?_)
   ·refine ZQ [0, 1, 2, 3, 4, 5, 6, 7, 8, 9, 10, 11, 12, 13, 14, 15, 16, 17, 18, 19, 20, 21] (by kernel_rfl) ?_
    refine e_' (pt_ aG 0) ?_
    have dJ := (t_ (t_ Y.n ab.n) aa.n)
    have cC := (al.djn (aV.ltF.le dJ))
    have eq := ((bo.ext ai).frS aj cC)
    refine mr_ 3 0 (i_ ((gt D e).1)) eq (e_' (pt_ V 0) (e_' (pt_ V 0) (e_' (pt_ V 1) ?_)))
    have dK := (t_ (t_ (t_ (t_ (t_ (t_ ah.n ae.n) af.n) U.n) ac.n) Z.n) Y.n)
    have cD := (am.djn (an.ltF.le dK))
    have dL := (t_ (t_ (t_ (t_ (t_ (t_ (t_ (t_ ah.n ae.n) af.n) U.n) ac.n) Z.n) Y.n) ab.n) aa.n)
    have cE := (al.djn (an.ltF.le dL))
    have es := ((((aZ.ext ab).frS aa cD).ext ai).frS aj cE)
    refine mr_ 3 1 (i_ aw) es ?_
    refine db_ (((gt D e).1) = aw) (fun a7 => ?_) fun a7 => ?_
    ·have d_ := Ze a7 bJ
     refine e_' (.bool true) (j_' (j_' (j_' (e_' (.bool true) (e_' (.bool true) (j_' (j_' (j_' (j_' (j_' (j_' (j_' (j_' (e_' (.bool true) ?_))))))))))))))
     refine ZI ?_
     obtain rfl := oi_ d_
     exact aQ _ _ ⟨ha_, rfl⟩
    have b7 := Zi a7 bJ
    refine e_' (.bool false) (e_' (pt_ bs 2) ?_)
    have cF := (al.djn (bZ.ltF.le aa.n))
    have cd := ((d6.ext ai).frS aj cF)
    refine mr_ 3 2 (i_ (((O ((gt D e).1)).getD ((0, 0, 0) : Int × Int × Int)).2.2)) cd ?_
    refine db_ ((((O ((gt D e).1)).getD ((0, 0, 0) : Int × Int × Int)).2.2) > 0) (fun a8 => ?_) fun a8 => ?_
    ·have ea := Ze a8 b7
     refine e_' (.bool true) (e_' (.bool true) (j_' (j_' (j_' (j_' (j_' (j_' (j_' (j_' (e_' (.bool true) ?_))))))))))
     refine ZI ?_
     obtain rfl := oi_ ea
     exact aQ _ _ ⟨ha_, rfl⟩
    have b8 := Zi a8 b7
    refine e_' (.bool false) (e_' (.bool false) (e_' (.bool ((O ((gt D e).1)).isSome)) (e_' (.bool ((O ((gt D e).1)).isSome)) ?_)))
    by_cases aO : (O ((gt D e).1)).isSome = true
    ·have eb := Ze aO b8
     rw [aO]
     refine e_' (pt_ bs 0) (mr_ 27 0 (.int .u64 (((O ((gt D e).1)).getD ((0, 0, 0) : Int × Int × Int)).1)) cd (e_' (pt_ bt 0) (mr_ 27 0 (.int .u64 (ad + ((gt D e).2.1))) b5 (e_' (.bool (decide ((((O ((gt D e).1)).getD ((0, 0, 0) : Int × Int × Int)).1) ≤ (ad + ((gt D e).2.1))))) (e_' (.bool (decide ((((O ((gt D e).1)).getD ((0, 0, 0) : Int × Int × Int)).1) ≤ (ad + ((gt D e).2.1))))) (e_' (.bool (decide ((((O ((gt D e).1)).getD ((0, 0, 0) : Int × Int × Int)).1) ≤ (ad + ((gt D e).2.1))))) ?_))))))
     refine ZI ?_
     obtain rfl := oi_ eb
     exact aQ _ _ ⟨ha_, rfl⟩
    have ec := Zi aO b8
    rw [nb aO]
    refine j_' (j_' (j_' (j_' (j_' (e_' (.bool false) (e_' (.bool false) ?_))))))
    refine ZI ?_
    obtain rfl := oi_ ec
    exact aQ _ _ ⟨ha_, rfl⟩
   obtain ⟨bG, rfl⟩ := hM
   obtain ⟨β, rfl⟩ := Zk bG
   clear bG
   refine du _ _ ?_
   refine wb_ (bX) (fun a_ => ?_) fun a_ => ?_
   ·have ed := Ze a_ b6
    refine ZK (Zj (ZV ?_))
    refine bK _ _ (g_' ?_)
    obtain ⟨dc, ee⟩ := Zb ed
    refine w_' ((e + 1)) (Zn (by have := dc; omega)) (q_ (i_ (e + 1)) (Za ?_))
    have dM := (t_ (t_ ac.n Z.n) Y.n)
    have dN := (t_ (t_ (t_ (t_ ac.n Z.n) Y.n) ab.n) aa.n)
    have dO := (t_ Z.n Y.n)
    have cG := (am.djn (aq.lt.le dO))
    have dP := (t_ (t_ (t_ Z.n Y.n) ab.n) aa.n)
    have cH := (al.djn (aq.lt.le dP))
    have et := ((((((aq.ext Z).fr Y (av.djn aq.lt)).ext ab).fr aa cG).ext ai).fr aj cH)
    have bR := (t_ (t_ (t_ (t_ (t_ (t_ ah.n ae.n) af.n) U.n) ac.n) Z.n) Y.n)
    have cI := (am.djn (ap.ltF.le bR))
    have bS := (t_ (t_ (t_ (t_ (t_ (t_ (t_ (t_ ah.n ae.n) af.n) U.n) ac.n) Z.n) Y.n) ab.n) aa.n)
    have cJ := (al.djn (ap.ltF.le bS))
    have eu := ((((bn.ext ab).frS aa cI).ext ai).frS aj cJ)
    have cK := (am.djn (an.ltF.le bR))
    have cL := (al.djn (an.ltF.le bS))
    have ev := ((((aZ.ext ab).frS aa cK).ext ai).frS aj cL)
    obtain rfl := oi_ ee
    exact bL bV _ _ lt_ ⟨aK, O, (e + 1), (.slice br bW bv), aH, bb, ha_, (fs_ U.wf ((fs_ U.wf ((fs_ U.wf ((fs_ U.wf (fr_ U.wf) ac ir_).extR Z) Y (av.fresh ac.n)).extR ab) aa (am.fresh dM)).extR ai) aj (al.fresh dN)), et, eu, ev, (Inn.trans ir_ (Nat.le_refl _) ay)⟩
   have ef := ZL a_ b6
   refine Zf (dt _ _ (g_' (q_ (pt_ V 0) (q_ (pt_ aG 0) ?_))))
   have dQ := (t_ (t_ Y.n ab.n) aa.n)
   have cM := (al.djn (aV.ltF.le dQ))
   have ew := ((bo.ext ai).frS aj cM)
   refine lr_ 3 0 (i_ ((gt D e).1)) ew (lr_ 110 0 (.agg #[.int .u64 (ad + ((gt D e).2.1)), i_ (hops + 1), i_ 0]) b5 ?_)
   have cN := (av.djn (aB.lt.le aR))
   have aS := (t_ (t_ (t_ (t_ (t_ (t_ ah.n ae.n) af.n) U.n) ac.n) Z.n) Y.n)
   have cO := (am.djn (aB.lt.le aS))
   have aT := (t_ (t_ (t_ (t_ (t_ (t_ (t_ (t_ ah.n ae.n) af.n) U.n) ac.n) Z.n) Y.n) ab.n) aa.n)
   have cP := (al.djn (aB.lt.le aT))
   have ex := ((((((((cg.fr U dn_).fr ac (Dj.app bB (Dj.app a6 bD))).ext Z).fr Y cN).ext ab).fr aa cO).ext ai).fr aj cP)
   have cQ := (av.djn (aA.ltF.le aR))
   have cR := (am.djn (aA.ltF.le aS))
   have cS := (al.djn (aA.ltF.le aT))
   have ey := ((((((((ch.frS U dn_).frS ac (Dj.app bA (Dj.app a2 bC))).ext Z).frS Y cQ).ext ab).frS aa cR).ext ai).frS aj cS)
   have dR := (t_ Z.n Y.n)
   have cT := (am.djn (aq.lt.le dR))
   have dS := (t_ (t_ (t_ Z.n Y.n) ab.n) aa.n)
   have cU := (al.djn (aq.lt.le dS))
   have ez := ((((((aq.ext Z).fr Y (av.djn aq.lt)).ext ab).fr aa cT).ext ai).fr aj cU)
   have cV := (am.djn (ap.ltF.le aS))
   have cW := (al.djn (ap.ltF.le aT))
   have eA := ((((bn.ext ab).frS aa cV).ext ai).frS aj cW)
   have cX := (am.djn (an.ltF.le aS))
   have cY := (al.djn (an.ltF.le aT))
   have eB := ((((aZ.ext ab).frS aa cX).ext ai).frS aj cY)
   have aU := (t_ (t_ (t_ ah.n ae.n) af.n) U.n)
   have cZ := (ay.dj c6 (ap.ltF.le aU))
   have c0 := (ay.dj c5 (an.ltF.le aU))
   have c3 := (ay.dj bD (aB.lt.le aU))
   have c4 := (ay.dj bC (aA.ltF.le aU))
   obtain ⟨ci, dh, eh⟩ := bs_ ef
   refine ck_ (Zey aj.wf ex ey ez eA eB a6 a2 (Dj.symm cZ) bx c0 c3 bB c4 bA dh) ?_
   rintro _ eP ⟨eR, c_, rfl, c7, dD, bM, dE, dk⟩
   obtain ⟨cm, dT, co, rfl⟩ := bM.form
   refine Za (bK _ _ (g_' ?_))
   obtain ⟨dd, ej⟩ := Zb eh
   refine w_' ((e + 1)) (Zn (by have := dd; omega)) (q_ (i_ (e + 1)) (Za ?_))
   have dU := (t_ (t_ ac.n Z.n) Y.n)
   have dV := (t_ (t_ (t_ (t_ ac.n Z.n) Y.n) ab.n) aa.n)
   have dW := (t_ (t_ (t_ (t_ (t_ (t_ ac.n Z.n) Y.n) ab.n) aa.n) ai.n) aj.n)
   obtain rfl := oi_ ej
   exact bL bV _ _ lt_ ⟨ci.2, ci.1, (e + 1), (.slice cm dT co), c_, bb, ha_, (fs_ U.wf (fs_ U.wf ((fs_ U.wf ((fs_ U.wf ((fs_ U.wf (fr_ U.wf) ac ir_).extR Z) Y (av.fresh ac.n)).extR ab) aa (am.fresh dU)).extR ai) aj (al.fresh dV)) c7 (Inn.app Inn.left (Inn.app (Inn.right Inn.left) (Inn.trans (Inn.right (Inn.right ir_)) (Nat.le_refl _) ay)))), bM, dD, dE, (Inn.trans (Inn.trans ir_ (Nat.le_refl _) ay) dW dk)⟩
  have ek := Zi aI aJ
  refine ZK (Zj (Zj (ZV ?_)))
  obtain rfl := oi_ ek
  obtain rfl := Zx bb
  exact dA _ _ ⟨(.slice br bW bv), aH, trivial, (fs_ U.wf (fr_ U.wf) ac ir_), bO, aq, bP, (Inn.trans ir_ (Nat.le_refl _) ay)⟩
 obtain ⟨bi, aM, bH, c9, dF, bN, dG, dm⟩ := hM
 obtain ⟨β, rfl⟩ := Zk bH
 clear bH
 obtain ⟨cn, dX, cp, rfl⟩ := bN.form
 refine Zfk (vs := []) (rfl) ?_
 have dY := (t_ (t_ (t_ ah.n ae.n) af.n) U.n)
 obtain rfl := oi_ ep
 exact ⟨(.slice cn dX cp), aM, rfl, (fs_ ax (fs_ ax (fs_ ax (fs_ ax ((fr_ ax).extR ah) ae (ao.fresh (Nat.le_refl _))) af (Inn.right Inn.left)) U in_) c9 ir_), dF, bN, dG, (Inn.trans ir_ dY dm)⟩
theorem ZgL {H : AH} {O : Nat} {ag : Nat} {a_ : Value} {aD : Fp} {ba : Value} {ah : Fp} {U : Nat} {aK : List (Bool × List (Int × Int × Int) × List (Int × Int × Int))} {aL : Int} {aM : Int} {ai : Int} {aj : Int} {bt : List (Int × Int)} {bu : Int -> Option (Int × Int × Int)} {u : Int} {most : Int} {settles : Int} {r : (Int -> Option (Int × Int × Int)) × List (Int × Int)}
    (af : WF H) (av : Nd Zc 3 H a_ aK aD []) (au : Row H ag [a_, i_ aL, i_ aM]) (b5 : Ow ZA 2 H ba bt ah) (aw : Ms .i64 ZT H U bu) (ar : Row H O [pt_ ag 0, i_ ai, i_ aj, ba, .map (some U)]) (aB : Dj [U] aD) (aA : Dj [U] [ag]) (a7 : Dj [U] ah) (ap : Dj [U] [O]) (a8 : Dj ah [O]) (aQ : Dj ah aD) (al : Dj [O] aD) (aP : Dj ah [ag]) (ak : Dj [O] [ag]) (be : Zco aK aL aM ai aj bt bu u most settles = some r) :
    ACalls Tryz.prog 44 #[pt_ O 0, i_ u, .int .u64 most, i_ settles] H fun v H' => ∃ (bs : Value) (f6 : Fp), v = .tuple #[] /\ FrS ([O] ++ ([U] ++ ah)) H H' /\ Ms .i64 ZT H' U r.1 /\ Ow ZA 2 H' bs r.2 f6 /\ Row H' O [pt_ ag 0, i_ ai, i_ aj, bs, .map (some U)] /\ Inn ah H f6 := by
 refine ab_ Tryz.func44 ?_
 unfold Zco at be
 refine sq_ fun cg => g_' (q_ (pt_ O 0) (q_ (i_ u) (q_ (.agg #[.int .u64 0, i_ 0, i_ 0]) ?_)))
 obtain ⟨bx, b_, cL⟩ := bs_ be
 refine ck_ (Zey af av au b5 aw ar aB aA a7 ap a8 aQ al aP ak b_) ?_
 rintro _ az ⟨c9, f15, rfl, D, cv, bj, cw, ae⟩
 obtain ⟨bE, cD, bJ, rfl⟩ := bj.form
 refine Za (cg _ _ (sq_ fun cj => g_' (q_ (i_ settles) (l_' (i_ (max 0 settles)) (Zfx Tryz.prog [i_ 0, i_ settles]) (ZeV _ _) (q_ (i_ 0) (Za (cj _ _ ?_)))))))
 obtain ⟨bA, b9, br⟩ := bs_ cL
 refine ZC (fun α am => ∃ aH, bA = Sum.inr aH /\ ∃ (aW : Value) (aC : Fp), Has α [] /\ FrS ([O] ++ ([U] ++ f15)) az am /\ Ms .i64 ZT am U aH.1 /\ Ow ZA 2 am aW aH.2 aC /\ Row am O [pt_ ag 0, i_ ai, i_ aj, aW, .map (some U)] /\ Inn f15 az aC) (fun _ ck => ?_) (fun α am hM => ?_)
 ·refine Zm ?_
  obtain ⟨bn, b7⟩ := Zu.1 b9
  refine ZJ (fun n α an => ∃ (aI : List (Int × Int)), ∃ (aJ : Int -> Option (Int × Int × Int)), ∃ (ac : Int), ∃ (aX : Value), ∃ (aq : Fp), ZR (fun zz_ => ZbI aK aL aM ai aj most settles zz_.1 zz_.2.1 zz_.2.2) n (aI, aJ, ac) = some bA /\ Has α [(0, pt_ O 0), (2, .int .u64 most), (16, i_ (max 0 settles)), (17, i_ ac)] /\ FrS ([O] ++ ([U] ++ f15)) az an /\ Ow ZA 2 an aX aI aq /\ Ms .i64 ZT an U aJ /\ Row an O [pt_ ag 0, i_ ai, i_ aj, aX, .map (some U)] /\ Inn f15 az aq) bn ⟨bx.2, bx.1, 0, (.slice bE cD bJ), f15, b7, ha_, (fr_ D.wf), bj, cv, cw, ir_⟩ ?_
  rintro bn α an ⟨aI, aJ, ac, aX, aq, b6, bd, aa, ay, aF, bl, ad⟩ c8 cm
  obtain ⟨cE, c4, rfl, ax, aT⟩ := Zy b6
  obtain ⟨β, rfl⟩ := Zk bd
  clear bd
  replace ax : ZbI aK aL aM ai aj most settles aI aJ ac = some c4 := ax
  unfold ZbI at ax
  obtain ⟨bF, cF, bK, rfl⟩ := ay.form
  refine sq_ fun cn => g_' (q_ (.bool (decide (ac < (max 0 settles)))) (Za (cn _ _ (sq_ fun co => ?_))))
  refine wc_ (ac < (max 0 settles)) (fun aS => ?_) fun aS => ?_
  ·have cR := Ze aS ax
   refine Zf (co _ _ (sq_ fun cp => Zm (sq_ fun cq => g_' (q_ (pt_ O 0) ?_))))
   have a1 := (ae.dj aQ av.lt)
   have bv := ((av.fr D (Dj.app al (Dj.app aB aQ))).fr aa (Dj.app al (Dj.app aB a1)))
   have a2 := (ae.dj aP au.ltF)
   have bw := ((au.frS D (Dj.app ak (Dj.app aA aP))).frS aa (Dj.app ak (Dj.app aA a2)))
   have aN := (ad.dj a1 (av.lt.le D.n))
   have aO := (ad.dj a2 (au.ltF.le D.n))
   have bU := (ae.dj (Dj.symm a7) aw.ltF)
   have ao := (ad.dj bU (aw.ltF.le D.n))
   have bV := (ae.dj a8 ar.ltF)
   have a6 := (ad.dj bV (ar.ltF.le D.n))
   obtain ⟨e, cc, cS⟩ := bs_ cR
   refine ck_ (Zgl aa.wf bv bw ay aF bl aN aO ao a6 (Dj.symm ap) al ak cc) ?_
   rintro _ c6 ⟨da, rfl, V, aU, bm⟩
   obtain ⟨bG, cG, bL, rfl⟩ := aU.form
   refine q_ (.tuple #[i_ e.1, .agg #[.int .u64 e.2.1, i_ e.2.2.1, i_ e.2.2.2.1], .bool e.2.2.2.2.1]) (q_ (i_ e.1) (q_ (.agg #[.int .u64 e.2.1, i_ e.2.2.1, i_ e.2.2.2.1]) (q_ (.bool e.2.2.2.2.1) ?_)))
   refine rk_ V.wf [.int .u64 0, i_ 0, i_ 0] fun aZ c7 Z ab cT => ?_
   refine q_ (i_ e.1) ?_
   obtain ⟨bB, cH, Y, bp⟩ := ra_ 110 0 Z.wf cT [.int .u64 e.2.1, i_ e.2.2.1, i_ e.2.2.2.1] [.int .u64 e.2.1, i_ e.2.2.1, i_ e.2.2.2.1]
   refine ek_ cH (q_ (.bool e.2.2.2.2.1) (Za (cq _ _ (sq_ fun ch => sq_ fun ci => ?_))))
   obtain ⟨bo, bg, bq⟩ := bs_ cS
   refine ZC (fun α aY => Has α [(0, pt_ O 0), (2, .int .u64 most), (8, i_ e.1), (9, pt_ aZ 0), (16, i_ (max 0 settles)), (17, i_ ac), (32, .bool bo)] /\ bB = aY) (fun _ bh => ?_) (fun α aY hM => ?_)
   ·refine g_' (q_ (.bool e.2.2.2.2.1) (q_ (.bool (!e.2.2.2.2.1)) (q_ (.bool (!e.2.2.2.2.1)) ?_)))
    by_cases aE : (!e.2.2.2.2.1) = true
    ·have cI := Ze aE bg
     rw [aE]
     refine n_' (n_' (n_' (n_' (q_ (.bool true) (Za ?_)))))
     obtain rfl := oi_ cI
     exact bh _ _ ⟨ha_, rfl⟩
    have cJ := Zi aE bg
    rw [nb aE]
    refine q_ (pt_ aZ 0) (lr_ 27 0 (.int .u64 e.2.1) bp (q_ (.int .u64 most) (q_ (.bool (decide (e.2.1 > most))) (q_ (.bool (decide (e.2.1 > most))) (Za ?_)))))
    obtain rfl := oi_ cJ
    exact bh _ _ ⟨ha_, rfl⟩
   obtain ⟨bb, rfl⟩ := hM
   obtain ⟨β, rfl⟩ := Zk bb
   clear bb
   refine ci _ _ ?_
   refine wb_ (bo) (fun aR => ?_) fun aR => ?_
   ·have cK := Ze aR bq
    refine Zg (Zh (ZN (Zh (Zh (ZN (Zh ?_))))))
    obtain ⟨db, bf, cd⟩ := map_some cK
    subst cd
    obtain rfl := Zx aT
    have b8 := elim_inl br
    rw [b8] at bf
    refine Z3 (vs := []) (rfl) ?_
    have aV := (t_ (t_ D.n aa.n) V.n)
    have bM := (ab.djn (aw.ltF.le aV))
    have cU := (((aF.frS V (Dj.app (Dj.symm ap) ao)).ext Z).frS Y bM)
    have bN := (ab.djn (ay.lt.le V.n))
    have cV := ((aU.ext Z).fr Y bN)
    have bO := (ab.djn (ar.ltF.le aV))
    have cW := ((bm.ext Z).frS Y bO)
    obtain rfl := oi_ bf
    exact ⟨(.slice bG cG bL), aq, rfl, (fs_ af ((fs_ af (fs_ af (fs_ af (fr_ af) D ir_) aa (Inn.app Inn.left (Inn.app (Inn.right Inn.left) (Inn.trans (Inn.right (Inn.right ir_)) (Nat.le_refl _) ae)))) V (Inn.app Inn.left (Inn.trans (Inn.trans (Inn.right (Inn.right ir_)) (Nat.le_refl _) ae) D.n ad))).extR Z) Y (ab.fresh aV)), cU, cV, cW, (Inn.trans (Inn.trans ir_ (Nat.le_refl _) ae) D.n ad)⟩
   have cM := ZL aR bq
   refine Zf (ch _ _ (g_' (q_ (pt_ O 0) (q_ (i_ e.1) (lr_ 110 0 (.agg #[.int .u64 e.2.1, i_ e.2.2.1, i_ e.2.2.2.1]) bp ?_)))))
   have aG := (t_ (t_ D.n aa.n) V.n)
   have bP := (ab.djn (av.lt.le aG))
   have cX := (((bv.fr V (Dj.app al aN)).ext Z).fr Y bP)
   have bQ := (ab.djn (au.ltF.le aG))
   have cY := (((bw.frS V (Dj.app ak aO)).ext Z).frS Y bQ)
   have bR := (ab.djn (ay.lt.le V.n))
   have cZ := ((aU.ext Z).fr Y bR)
   have bS := (ab.djn (aw.ltF.le aG))
   have c0 := (((aF.frS V (Dj.app (Dj.symm ap) ao)).ext Z).frS Y bS)
   have bT := (ab.djn (ar.ltF.le aG))
   have c3 := ((bm.ext Z).frS Y bT)
   obtain ⟨bz, ca, cN⟩ := bs_ cM
   refine ck_ (Zfz Y.wf cX cY cZ c0 c3 ap (Dj.symm ao) aB aA a6 aN al aO ak ao ca) ?_
   rintro _ c5 ⟨c_, bY, rfl, bW, cr, bi, cu, ce⟩
   obtain ⟨bC, cz, bH, rfl⟩ := bi.form
   refine Za (cp _ _ (g_' ?_))
   obtain ⟨bZ, cO⟩ := Zb cN
   refine w_' ((ac + 1)) (Zn bZ) (q_ (i_ (ac + 1)) (Za ?_))
   have cA := (t_ aa.n V.n)
   have cB := (t_ (t_ (t_ aa.n V.n) Z.n) Y.n)
   obtain rfl := oi_ cO
   exact cm cE _ _ lt_ ⟨bz.2, bz.1, (ac + 1), (.slice bC cz bH), bY, aT, ha_, (fs_ D.wf (fs_ D.wf ((fs_ D.wf (fs_ D.wf (fr_ D.wf) aa ir_) V (Inn.app Inn.left (Inn.trans (Inn.right (Inn.right ir_)) (Nat.le_refl _) ad))).extR Z) Y (ab.fresh cA)) bW (Inn.app Inn.left (Inn.app (Inn.right Inn.left) (Inn.trans (Inn.right (Inn.right ir_)) (Nat.le_refl _) ad)))), bi, cr, cu, (Inn.trans (Inn.trans ir_ (Nat.le_refl _) ad) cB ce)⟩
  have cP := Zi aS ax
  refine ZK (Zj (Zj (ZV ?_)))
  obtain rfl := oi_ cP
  obtain rfl := Zx aT
  exact ck _ _ ⟨_, rfl, (.slice bF cF bK), aq, trivial, (fs_ D.wf (fr_ D.wf) aa ir_), aF, ay, bl, (Inn.trans ir_ (Nat.le_refl _) ad)⟩
 obtain ⟨aH, rfl, aW, aC, bc, bX, cx, bk, cy, cf⟩ := hM
 have cQ := elim_inr br
 obtain ⟨β, rfl⟩ := Zk bc
 clear bc
 obtain ⟨bD, cC, bI, rfl⟩ := bk.form
 refine Zfk (vs := []) (rfl) ?_
 obtain rfl := oi_ cQ
 exact ⟨(.slice bD cC bI), aC, rfl, (fs_ af (fs_ af (fr_ af) D ir_) bX (Inn.app Inn.left (Inn.app (Inn.right Inn.left) (Inn.trans (Inn.right (Inn.right ir_)) (Nat.le_refl _) ae)))), cx, bk, cy, (Inn.trans (Inn.trans ir_ (Nat.le_refl _) ae) D.n cf)⟩
end Go.Vd

/-! (KSn3) -/

set_option maxRecDepth 100000
set_option maxHeartbeats 4000000
set_option linter.unusedVariables false
namespace Go.Vd
open Go.Proofs
attribute [local irreducible] Zp Zr aWp
theorem Zig {H : AH} {Y : Nat} {ba : Value} {bU : Fp} {ac : Value} {bT : Fp} {aF : List (Bool × List (Int × Int × Int) × List (Int × Int × Int))} {aG : Int} {aH : Int} {u : Int} {skip : Int} {goals : List (Int)} {most : Int} {hops : Int} {settles : Int} {r : List (Int) × Er}
    (aa : WF H) (am : Nd Zc 3 H ba aF bU []) (al : Row H Y [ba, i_ aG, i_ aH]) (ag : Sq (Zak .i64) 1 H ac goals bT) (bj : Zdh aF aG aH u skip goals most hops settles = some r) :
    ACalls Tryz.prog 9 #[pt_ Y 0, i_ u, i_ skip, ac, .int .u64 most, i_ hops, i_ settles] H fun v H' => ∃ (bA : Value) (aP : Fp) (bD : Value) (aQ : Fp), v = .tuple #[bA, bD] /\ FrS [] H H' /\ Ow (Zak .u64) 1 H' bA r.1 aP /\ Ev 78 116 H' bD r.2 aQ /\ Inn [] H aP /\ Inn [] H aQ /\ Dj aP aQ := by
 refine ab_ Tryz.func9 ?_
 unfold Zdh at bj
 refine sq_ fun co => g_' (q_ (.slice none 0 0) (q_ (.nilIface) (Za (co _ _ (sq_ fun cq => sq_ fun cu => g_' (q_ (pt_ Y 0) (q_ (.bool false) (Za (cu _ _ ?_)))))))))
 refine wb_ false (fun h => by cases h) fun _ => ?_
 refine Zf (cq _ _ (sq_ fun cv => sq_ fun cz => g_' (q_ (pt_ Y 0) (q_ (i_ u) ?_))))
 obtain ⟨bE, cf, bw⟩ := bs_ bj
 refine ck_ (ZY aa am al cf) ?_
 rintro _ _ ⟨rfl, rfl⟩
 refine q_ (.bool (!bE)) (Za (cz _ _ ?_))
 refine wb_ ((!bE)) (fun aS => ?_) fun aS => ?_
 ·have dd := Ze aS bw
  refine sq_ fun cD => g_' (q_ (.iface 78 (i_ 7)) (q_ (.slice none 0 0) (q_ (.iface 78 (i_ 7)) (Za (cD _ _ ?_)))))
  refine Zg (Zh ?_)
  refine br_ [.slice none 0 0, .iface 78 (i_ 7)] ?_
  obtain rfl := oi_ dd
  exact ⟨(.slice none 0 0), [], (.iface 78 (i_ 7)), [], rfl, (f0_ aa), (Ow.nil (by decide)), Ev.no, in_, in_, dn_⟩
 have dg := ZL aS bw
 refine Zf (cv _ _ (sq_ fun cF => sq_ fun cG => g_' (q_ (ac) (ag.ln_ 26 (q_ (i_ 0) (Za (cG _ _ ?_)))))))
 obtain ⟨bG, cd, bx⟩ := bs_ dg
 refine ZC (fun α a6 => ∃ bu, bG = Sum.inr bu /\ Has α [(0, pt_ Y 0), (1, i_ u), (2, i_ skip), (3, ac), (4, .int .u64 most), (5, i_ hops), (6, i_ settles)] /\ H = a6) (fun _ cH => ?_) (fun α a6 hM => ?_)
 ·refine Zm ?_
  obtain ⟨bs, b_⟩ := Zu.1 cd
  refine ZJ (fun n α a7 => ∃ (O : Int), ZR (fun zz_ => ZcB aF aG aH goals zz_) n O = some bG /\ Has α [(0, pt_ Y 0), (1, i_ u), (2, i_ skip), (3, ac), (4, .int .u64 most), (5, i_ hops), (6, i_ settles), (33, ac), (34, i_ (goals.length : Int)), (35, i_ O)] /\ H = a7) bs ⟨0, b_, ha_, rfl⟩ ?_
  rintro bs α a7 ⟨O, b8, be, rfl⟩ dN cI
  obtain ⟨cY, dC, rfl, ap, aV⟩ := Zy b8
  obtain ⟨β, rfl⟩ := Zk be
  clear be
  replace ap : ZcB aF aG aH goals O = some dC := ap
  unfold ZcB at ap
  refine sq_ fun cJ => g_' (q_ (.bool (decide (O < (goals.length : Int)))) (Za (cJ _ _ (sq_ fun cK => ?_))))
  refine wc_ (O < (goals.length : Int)) (fun ak => ?_) fun ak => ?_
  ·have dh := Ze ak ap
   refine Zf (cK _ _ (sq_ fun cL => Zm (sq_ fun cM => g_' (q_ (i_ O) ?_))))
   obtain ⟨a_, di⟩ := Zb dh
   refine ag.ix_ 26 a_ ak (le_ 3 0 (i_ (gt goals O)) ag a_ ak (q_ (i_ O) (q_ (i_ (gt goals O)) (Za (cM _ _ (sq_ fun cN => g_' (q_ (pt_ Y 0) (q_ (i_ (gt goals O)) ?_))))))))
   obtain ⟨bF, cg, bz⟩ := bs_ di
   refine ck_ (ZY aa am al cg) ?_
   rintro _ _ ⟨rfl, rfl⟩
   refine q_ (.bool (!bF)) (Za (cN _ _ ?_))
   refine wb_ ((!bF)) (fun aT => ?_) fun aT => ?_
   ·have dk := Ze aT bz
    refine sq_ fun cO => g_' (q_ (i_ O) (q_ (.iface 78 (i_ 7)) ?_))
    obtain ⟨d9, ch, dm⟩ := bs_ dk
    refine ck_ (ZhY aa (Ev.no (tf := 116)) ch) ?_
    rintro a2 dJ ⟨_, bS, rfl, bP, cU, ck⟩
    refine q_ (.slice none 0 0) (q_ (a2) (Za (cO _ _ ?_)))
    refine Zg (ZN (Zh (Zh (ZN (Zh (Zh ?_))))))
    obtain ⟨d8, bk, ci⟩ := map_some dm
    subst ci
    obtain rfl := Zx aV
    have ca := elim_inl bx
    rw [ca] at bk
    refine br_ [.slice none 0 0, a2] ?_
    obtain rfl := oi_ bk
    exact ⟨(.slice none 0 0), [], (a2), bS, rfl, (fs_ aa (f0_ aa) bP in_), (Ow.nil (by decide)), cU, in_, (ck.fresh (Nat.le_refl _)), dn_⟩
   have dn := ZL aT bz
   refine Zf (cL _ _ (g_' ?_))
   obtain ⟨bZ, dp⟩ := Zb dn
   refine w_' ((O + 1)) (Zn (by have := bZ; omega)) (q_ (i_ (O + 1)) (Za ?_))
   obtain rfl := oi_ dp
   exact cI cY _ _ lt_ ⟨(O + 1), aV, ha_, rfl⟩
  have dq := Zi ak ap
  refine ZK (Zj (Zj (ZV ?_)))
  obtain rfl := oi_ dq
  obtain rfl := Zx aV
  exact cH _ _ ⟨_, rfl, ha_, rfl⟩
 obtain ⟨bu, rfl, bd, rfl⟩ := hM
 have dr := elim_inr bx
 obtain ⟨β, rfl⟩ := Zk bd
 clear bd
 refine cF _ _ (sq_ fun cP => g_' (q_ (pt_ Y 0) (q_ (i_ skip) (q_ (i_ hops) ?_))))
 refine s_ms .i64 ZT aa (by kernel_rfl) fun aw dK Z aD bp => ?_
 refine q_ (.agg #[pt_ Y 0, i_ skip, i_ hops, .slice none 0 0, .map (some aw)]) ?_
 refine rl_ Z.wf [pt_ Y 0, i_ skip, i_ hops, .slice none 0 0, .map (some aw)] fun af dL ae an dt => ?_
 refine q_ (pt_ af 0) (Za (cP _ _ (sq_ fun cQ => g_' (q_ (pt_ af 0) (q_ (i_ u) (q_ (.int .u64 most) (q_ (i_ settles) ?_)))))))
 have dy := ((am.ext Z).ext ae)
 have dz := ((al.ext Z).ext ae)
 have dA := (bp.ext ae)
 have bI := (an.djn bp.ltF)
 have bJ := (an.djn (am.lt.le Z.n))
 have bK := (an.djn (al.ltF.le Z.n))
 obtain ⟨D, ce, c4⟩ := bs_ dr
 refine ck_ (ZgL ae.wf dy dz (Ow.nil (enc := ZA) (sz := 2) (by decide)) dA dt (aD.djn am.lt) (aD.djn al.ltF) Dj.nil_r (Dj.symm bI) dn_ dn_ bJ dn_ bK ce) ?_
 rintro _ ar ⟨d3, dU, rfl, U, cR, cS, cT, dZ⟩
 obtain ⟨dO, d0, dR, rfl⟩ := cS.form
 refine Za (cQ _ _ (sq_ fun cm => g_' (q_ (.slice none 0 0) (Za (cm _ _ (sq_ fun cn => sq_ fun cp => g_' (q_ (ac) ?_)))))))
 have bL := (an.djn (ag.lt.le Z.n))
 have bB := (((ag.ext Z).ext ae).fr U (Dj.app bL (Dj.app (aD.djn ag.lt) dn_)))
 refine bB.ln_ 26 (q_ (i_ 0) (Za (cp _ _ ?_)))
 obtain ⟨bt, cc, c5⟩ := bs_ c4
 refine ZC (fun α aI => ∃ (aZ : Value) (aA : Fp), Has α [(19, aZ)] /\ FrS [] ar aI /\ Ow (Zak .u64) 1 aI aZ bt aA /\ Inn [] ar aA) (fun _ cr => ?_) (fun α aI hM => ?_)
 ·refine Zm ?_
  obtain ⟨bq, b9⟩ := Zu.1 cc
  refine ZJ (fun n α au => ∃ (ah : List (Int)), ∃ (e : Int), ∃ (a1 : Value), ∃ (aB : Fp), ZR (fun zz_ => ZcC goals D zz_.1 zz_.2) n (ah, e) = some bt /\ Has α [(18, pt_ af 0), (19, a1), (59, ac), (60, i_ (goals.length : Int)), (61, i_ e)] /\ FrS [] ar au /\ Ow (Zak .u64) 1 au a1 ah aB /\ Inn [] ar aB) bq ⟨[], 0, (.slice none 0 0), [], b9, ha_, (fr_ U.wf), (Ow.nil (by decide)), in_⟩ ?_
  rintro bq α au ⟨ah, e, a1, aB, b7, bc, V, ai, aq⟩ dM bl
  obtain ⟨br, dB, rfl, ao, aU⟩ := Zy b7
  obtain ⟨β, rfl⟩ := Zk bc
  clear bc
  replace ao : ZcC goals D ah e = some dB := ao
  unfold ZcC at ao
  obtain ⟨aJ, aW, aM, rfl⟩ := ai.form
  refine sq_ fun cw => g_' (q_ (.bool (decide (e < (goals.length : Int)))) (Za (cw _ _ (sq_ fun cx => ?_))))
  refine wc_ (e < (goals.length : Int)) (fun aj => ?_) fun aj => ?_
  ·have c6 := Ze aj ao
   refine Zf (cx _ _ (sq_ fun bm => Zm (sq_ fun cy => g_' ?_)))
   obtain ⟨a8, bv⟩ := Zb c6
   have bC := (bB.fr V dn_)
   refine bC.ix_ 26 a8 aj (le_ 3 0 (i_ (gt goals e)) bC a8 aj (q_ (i_ (gt goals e)) (Za (cy _ _ (sq_ fun cA => g_' (q_ (.int .u64 18446744073709551615) (Za (cA _ _ (sq_ fun bn => sq_ fun cB => g_' (q_ (pt_ af 0) (q_ (pt_ af 0) (q_ (pt_ af 4) ?_))))))))))))
   have du := (cT.frS V dn_)
   refine lr_ 103 4 (.map (some aw)) du (q_ (i_ (gt goals e)) ?_)
   have dv := (cR.frS V dn_)
   refine l_' (.tuple #[.agg #[.int .u64 (((D.1 (gt goals e)).getD ((0, 0, 0) : Int × Int × Int)).1), i_ (((D.1 (gt goals e)).getD ((0, 0, 0) : Int × Int × Int)).2.1), i_ (((D.1 (gt goals e)).getD ((0, 0, 0) : Int × Int × Int)).2.2)], .bool ((D.1 (gt goals e)).isSome)]) (Zdb Tryz.prog 103 (.map (some aw)) (i_ (gt goals e)) true au) (dv.look2 ((0, 0, 0) : Int × Int × Int) (zv := .agg #[.int .u64 0, i_ 0, i_ 0]) rfl (by kernel_rfl) (by kernel_rfl) _ rfl) (q_ (.tuple #[.agg #[.int .u64 (((D.1 (gt goals e)).getD ((0, 0, 0) : Int × Int × Int)).1), i_ (((D.1 (gt goals e)).getD ((0, 0, 0) : Int × Int × Int)).2.1), i_ (((D.1 (gt goals e)).getD ((0, 0, 0) : Int × Int × Int)).2.2)], .bool ((D.1 (gt goals e)).isSome)]) (q_ (.agg #[.int .u64 (((D.1 (gt goals e)).getD ((0, 0, 0) : Int × Int × Int)).1), i_ (((D.1 (gt goals e)).getD ((0, 0, 0) : Int × Int × Int)).2.1), i_ (((D.1 (gt goals e)).getD ((0, 0, 0) : Int × Int × Int)).2.2)]) (q_ (.bool ((D.1 (gt goals e)).isSome)) ?_)))
   refine rk_ V.wf [.int .u64 0, i_ 0, i_ 0] fun bH dD ad aC c7 => ?_
   obtain ⟨dE, cZ, ab, c8⟩ := ra_ 110 0 ad.wf c7 [.int .u64 (((D.1 (gt goals e)).getD ((0, 0, 0) : Int × Int × Int)).1), i_ (((D.1 (gt goals e)).getD ((0, 0, 0) : Int × Int × Int)).2.1), i_ (((D.1 (gt goals e)).getD ((0, 0, 0) : Int × Int × Int)).2.2)] [.int .u64 (((D.1 (gt goals e)).getD ((0, 0, 0) : Int × Int × Int)).1), i_ (((D.1 (gt goals e)).getD ((0, 0, 0) : Int × Int × Int)).2.1), i_ (((D.1 (gt goals e)).getD ((0, 0, 0) : Int × Int × Int)).2.2)]
   refine ek_ cZ (q_ (.bool ((D.1 (gt goals e)).isSome)) (Za (cB _ _ (sq_ fun cC => g_' (q_ (.bool ((D.1 (gt goals e)).isSome)) (Za (cC _ _ ?_)))))))
   refine wb_ ((D.1 (gt goals e)).isSome) (fun aR => ?_) fun aR => ?_
   ·have c9 := Ze aR bv
    refine g_' (q_ (pt_ bH 0) (lr_ 27 0 (.int .u64 (((D.1 (gt goals e)).getD ((0, 0, 0) : Int × Int × Int)).1)) c8 (q_ (.int .u64 (((D.1 (gt goals e)).getD ((0, 0, 0) : Int × Int × Int)).1)) (Za (bn _ _ (g_' (q_ (.slice aJ aW aM) (q_ (.int .u64 (((D.1 (gt goals e)).getD ((0, 0, 0) : Int × Int × Int)).1)) ?_))))))))
    refine Zbl (enc := (Zak .u64)) (sz := 1) ab.wf [((D.1 (gt goals e)).getD ((0, 0, 0) : Int × Int × Int)).1] 1 (by decide) (fun _ _ => rfl) (fun _ _ => rfl) rfl (by kernel_rfl) fun d4 dV dF ay dX bf => ?_
    obtain ⟨dP, d1, dS, rfl⟩ := bf.form
    have dw := (((ai.ext ad).fr ab (aC.djn ai.lt)).ext ay)
    obtain ⟨bV, c_⟩ := Zb c9
    obtain ⟨d5, dG, bQ, c0, bN, bg, b5⟩ := Ow.append (P := Tryz.prog) 8 ay.wf dw bf.sq (fun _ _ => rfl) (at_ := #[36, 36]) rfl rfl (by kernel_rfl) (by kernel_rfl) (by decide) (by have := bV; first | omega | (simp only [List.length_cons, List.length_nil] at this ⊢; omega) | (simp at this ⊢; omega))
    obtain ⟨aK, aX, aN, rfl⟩ := bg.form
    refine ZaN (.slice aK aX aN) (by kernel_rfl) (c0) ?_
    refine q_ (.slice aK aX aN) (Za (bm _ _ (g_' ?_)))
    obtain ⟨bW, da⟩ := Zb c_
    refine w_' ((e + 1)) (Zn (by have := bW; omega)) (q_ (i_ (e + 1)) (Za ?_))
    have cV := (t_ (t_ (t_ V.n ad.n) ab.n) ay.n)
    obtain rfl := oi_ da
    exact bl br _ _ lt_ ⟨(ah ++ [((D.1 (gt goals e)).getD ((0, 0, 0) : Int × Int × Int)).1]), (e + 1), (.slice aK aX aN), bQ, aU, ha_, (fs_ U.wf ((fs_ U.wf ((fs_ U.wf (fr_ U.wf) V in_).extR ad) ab (aC.fresh V.n)).extR ay) bN (aq.fresh (Nat.le_refl _))), bg, (Inn.trans (aq.fresh (Nat.le_refl _)) cV b5)⟩
   have db := ZL aR bv
   refine Zf (bn _ _ (g_' (q_ (.slice aJ aW aM) (q_ (.int .u64 18446744073709551615) ?_))))
   refine Zbl (enc := (Zak .u64)) (sz := 1) ab.wf [18446744073709551615] 1 (by decide) (fun _ _ => rfl) (fun _ _ => rfl) rfl (by kernel_rfl) fun d6 dW dH az dY bh => ?_
   obtain ⟨dQ, d2, dT, rfl⟩ := bh.form
   have dx := (((ai.ext ad).fr ab (aC.djn ai.lt)).ext az)
   obtain ⟨bX, dc⟩ := Zb db
   obtain ⟨d7, dI, bR, c3, bO, bi, b6⟩ := Ow.append (P := Tryz.prog) 8 az.wf dx bh.sq (fun _ _ => rfl) (at_ := #[36, 36]) rfl rfl (by kernel_rfl) (by kernel_rfl) (by decide) (by have := bX; first | omega | (simp only [List.length_cons, List.length_nil] at this ⊢; omega) | (simp at this ⊢; omega))
   obtain ⟨aL, aY, aO, rfl⟩ := bi.form
   refine ZaN (.slice aL aY aO) (by kernel_rfl) (c3) ?_
   refine q_ (.slice aL aY aO) (Za (bm _ _ (g_' ?_)))
   obtain ⟨bY, de⟩ := Zb dc
   refine w_' ((e + 1)) (Zn (by have := bY; omega)) (q_ (i_ (e + 1)) (Za ?_))
   have cW := (t_ (t_ (t_ V.n ad.n) ab.n) az.n)
   obtain rfl := oi_ de
   exact bl br _ _ lt_ ⟨(ah ++ [18446744073709551615]), (e + 1), (.slice aL aY aO), bR, aU, ha_, (fs_ U.wf ((fs_ U.wf ((fs_ U.wf (fr_ U.wf) V in_).extR ad) ab (aC.fresh V.n)).extR az) bO (aq.fresh (Nat.le_refl _))), bi, (Inn.trans (aq.fresh (Nat.le_refl _)) cW b6)⟩
  have df := Zi aj ao
  refine ZK (Zj (Zj (ZV ?_)))
  obtain rfl := oi_ df
  obtain rfl := Zx aU
  exact cr _ _ ⟨(.slice aJ aW aM), aB, ha_, (fs_ U.wf (fr_ U.wf) V in_), ai, (aq.fresh (Nat.le_refl _))⟩
 obtain ⟨aZ, aA, bb, bM, bo, cj⟩ := hM
 obtain ⟨β, rfl⟩ := Zk bb
 clear bb
 obtain ⟨av, aE, ax, rfl⟩ := bo.form
 refine cn _ _ (sq_ fun cE => g_' (q_ (.slice av aE ax) (q_ (.slice av aE ax) (q_ (.nilIface) (Za (cE _ _ ?_))))))
 refine Zg ?_
 refine br_ [.slice av aE ax, .nilIface] ?_
 have cX := (t_ (t_ Z.n ae.n) U.n)
 obtain rfl := oi_ c5
 exact ⟨(.slice av aE ax), aA, (.nilIface), [], rfl, (fs_ aa (fs_ aa (((f0_ aa).extR Z).extR ae) U (Inn.app (an.fresh Z.n) (Inn.app (aD.fresh (Nat.le_refl _)) in_))) bM in_), bo, Ev.nil, (cj.fresh cX), in_, Dj.nil_r⟩
theorem Ze9 {H : AH} {e : Int} {U : Int} {O : Int} {D : Int} {r : Int}
    (Y : WF H) (V : ZcR e U O D = some r) :
    ACalls Tryz.prog 101 #[.agg #[i_ e, .int .u64 U, i_ O], i_ D] H fun v H' => v = i_ r /\ FrS [] H H' := by
 refine ab_ Tryz.func101 ?_
 unfold ZcR at V
 refine sq_ fun k1 => g_' ?_
 refine rl_ Y [i_ e, .int .u64 U, i_ O] fun b2 ac Z ad ab => ?_
 refine q_ (i_ 0) (Za (k1 _ _ (sq_ fun aa => g_' (q_ (pt_ b2 0) (lr_ 3 0 (i_ e) ab (q_ (i_ D) (q_ (i_ (IntKind.i64.wrap (e - D))) (q_ (i_ (IntKind.i64.wrap (e - D))) (Za (aa _ _ ?_))))))))))
 refine Zg ?_
 refine br_ [i_ (IntKind.i64.wrap (e - D))] ?_
 obtain rfl := oi_ V
 exact ⟨rfl, ((f0_ Y).extR Z)⟩
theorem ZeQ {H : AH} {V : Value} {aB : Fp} {x : List (Int × Int × Int)} {target : Int} {r : Int × Bool}
    (O : WF H) (ag : Sq Zc 3 H V x aB) (ao : ZbL x target = some r) :
    ACalls Tryz.prog 100 #[V, i_ target, .func (.func 101) #[] #[]] H fun v H' => v = .tuple #[i_ r.1, .bool r.2] /\ FrS [] H H' := by
 refine ab_ Tryz.func100 ?_
 unfold ZbL at ao
 refine sq_ fun k1 => g_' (q_ (i_ 0) (q_ (.bool false) (Za (k1 _ _ (sq_ fun k2 => g_' (q_ (V) (ag.ln_ 75 (q_ (i_ (x.length : Int)) (Za (k2 _ _ (sq_ fun k3 => g_' (q_ (i_ (x.length : Int)) (q_ (i_ 0) (q_ (i_ (x.length : Int)) (Za (k3 _ _ (sq_ fun aQ => ?_)))))))))))))))))
 obtain ⟨U, aI, aw⟩ := bs_ ao
 refine ZC (fun α aj => Has α [(0, V), (1, i_ target), (2, .func (.func 101) #[] #[]), (8, i_ (x.length : Int)), (9, i_ U)] /\ FrS [] H aj) (fun _ aL => ?_) (fun α aj hM => ?_)
 ·refine Zm ?_
  obtain ⟨ar, aH⟩ := Zu.1 aI
  refine ZJ (fun n α ai => ∃ (D : Int), ∃ (e : Int), ZR (fun zz_ => Zau x target zz_.1 zz_.2) n (D, e) = some U /\ Has α [(0, V), (1, i_ target), (2, .func (.func 101) #[] #[]), (8, i_ (x.length : Int)), (9, i_ e), (10, i_ D)] /\ FrS [] H ai) ar ⟨(x.length : Int), 0, aH, ha_, (f0_ O)⟩ ?_
  rintro ar α ai ⟨D, e, aG, an, Y⟩ bb ap
  obtain ⟨au, a8, rfl, aa, ah⟩ := Zy aG
  obtain ⟨β, rfl⟩ := Zk an
  clear an
  replace aa : Zau x target D e = some a8 := aa
  unfold Zau at aa
  refine sq_ fun aM => sq_ fun aN => g_' (q_ (i_ e) (q_ (i_ D) (q_ (.bool (decide (e < D))) (Za (aN _ _ ?_)))))
  refine wc_ (e < D) (fun ae => ?_) fun ae => ?_
  ·have aR := Ze ae aa
   refine Zf (aM _ _ (Zm (sq_ fun aO => g_' (q_ (i_ e) (q_ (i_ D) ?_)))))
   obtain ⟨aC, aS⟩ := Zb aR
   refine w_' ((e + D)) (Zn aC) ?_
   obtain ⟨aD, aT⟩ := Zb aS
   refine s_w ((e + D)) (k := .u64) (x := (e + D)) (by kernel_rfl) (Zdw aD) ?_
   refine l_' (.int .u64 ((e + D) / 2)) (some (.int .u64 (Int.fdiv (e + D) 2))) (by rw [Int.fdiv_eq_ediv_of_nonneg _ (by decide)]) ?_
   obtain ⟨aE, aU⟩ := Zb aT
   refine w_' (((e + D) / 2)) (Zn aE) (q_ (i_ ((e + D) / 2)) (Za (aO _ _ (sq_ fun aP => g_' (q_ (.func (.func 101) #[] #[]) (q_ (V) (q_ (i_ ((e + D) / 2)) ?_)))))))
   obtain ⟨ac, aV⟩ := Zb aU
   have ax := (ag.fr Y dn_)
   refine ax.ix_ 75 ac.1 ac.2 (le_ 80 0 (.agg #[i_ ((gt x ((e + D) / 2)).1), .int .u64 ((gt x ((e + D) / 2)).2.1), i_ ((gt x ((e + D) / 2)).2.2)]) ax ac.1 ac.2 (q_ (i_ target) ?_))
   obtain ⟨az, aJ, av⟩ := bs_ aV
   refine ck_ (Ze9 Y.wf aJ) ?_
   rintro _ a_ ⟨rfl, ak⟩
   refine q_ (.bool (decide (az < 0))) (Za (aP _ _ ?_))
   refine wc_ (az < 0) (fun af => ?_) fun af => ?_
   ·have aW := Ze af av
    refine g_' (q_ (i_ ((e + D) / 2)) ?_)
    obtain ⟨aF, aX⟩ := Zb aW
    refine w_' ((((e + D) / 2) + 1)) (Zn (by have := aF; omega)) (q_ (i_ (((e + D) / 2) + 1)) (Za ?_))
    obtain rfl := oi_ aX
    exact ap au _ _ lt_ ⟨D, (((e + D) / 2) + 1), ah, ha_, (fs_ O (fs_ O (f0_ O) Y in_) ak in_)⟩
   have aY := Zi af av
   refine g_' (q_ (i_ ((e + D) / 2)) (q_ (i_ ((e + D) / 2)) (Za ?_)))
   obtain rfl := oi_ aY
   exact ap au _ _ lt_ ⟨((e + D) / 2), e, ah, ha_, (fs_ O (fs_ O (f0_ O) Y in_) ak in_)⟩
  have aZ := Zi ae aa
  refine ZK (Zj (Zj (ZV ?_)))
  obtain rfl := oi_ aZ
  obtain rfl := Zx ah
  exact aL _ _ ⟨ha_, (fs_ O (f0_ O) Y in_)⟩
 obtain ⟨am, ab⟩ := hM
 obtain ⟨β, rfl⟩ := Zk am
 clear am
 refine aQ _ _ (sq_ fun aq => g_' (q_ (i_ U) (q_ (i_ U) (q_ (i_ (x.length : Int)) ?_))))
 refine sb_ (U < (x.length : Int)) (fun Z => ?_) fun Z => ?_
 ·have a1 := Ze Z aw
  refine q_ (.bool true) (q_ (.func (.func 101) #[] #[]) (q_ (V) (q_ (i_ U) ?_)))
  obtain ⟨al, a2⟩ := Zb a1
  have ay := (ag.fr ab dn_)
  refine ay.ix_ 75 al Z (le_ 80 0 (.agg #[i_ ((gt x U).1), .int .u64 ((gt x U).2.1), i_ ((gt x U).2.2)]) ay al Z (q_ (i_ target) ?_))
  obtain ⟨ad, aK, a6⟩ := bs_ a2
  refine ck_ (Ze9 ab.wf aK) ?_
  rintro _ ba ⟨rfl, aA⟩
  refine q_ (.bool (decide (ad = 0))) (q_ (.bool (decide (ad = 0))) (q_ (i_ U) (q_ (.bool (decide (ad = 0))) (Za (aq _ _ ?_)))))
  refine Zg ?_
  refine br_ [i_ U, .bool (decide (ad = 0))] ?_
  obtain rfl := oi_ a6
  exact ⟨rfl, (fs_ O (fs_ O (f0_ O) ab in_) aA in_)⟩
 have a7 := Zi Z aw
 refine q_ (.bool false) (n_' (n_' (n_' (n_' (n_' (n_' (n_' (n_' (q_ (.bool false) (q_ (i_ U) (q_ (.bool false) (Za (aq _ _ ?_)))))))))))))
 refine Zg ?_
 refine br_ [i_ U, .bool false] ?_
 obtain rfl := oi_ a7
 exact ⟨rfl, (fs_ O (f0_ O) ab in_)⟩
theorem Zep {H : AH} {D : Value} {Z : Fp} {l : List (Int × Int × Int)} {O : Int} {r : Int × Bool}
    (U : WF H) (aa : Sq Zc 3 H D l Z) (V : Zcc l O = some r) :
    ACalls Tryz.prog 85 #[D, i_ O] H fun v H' => v = .tuple #[i_ r.1, .bool r.2] /\ FrS [] H H' := by
 refine ab_ Tryz.func85 ?_
 unfold Zcc at V
 refine sq_ fun k1 => g_' (q_ (i_ 0) (q_ (.bool false) (Za (k1 _ _ (sq_ fun k2 => g_' (q_ (D) (q_ (i_ O) ?_)))))))
 obtain ⟨e, ab, ac⟩ := bs_ V
 refine ck_ (ZeQ U aa ab) ?_
 rintro _ ad ⟨rfl, Y⟩
 refine q_ (i_ e.1) (q_ (.bool e.2) (q_ (i_ e.1) (q_ (.bool e.2) (Za (k2 _ _ ?_)))))
 refine Zg ?_
 refine br_ [i_ e.1, .bool e.2] ?_
 obtain rfl := oi_ ac
 exact ⟨rfl, (fs_ U (f0_ U) Y in_)⟩
theorem ZdC {H : AH} {U : Nat} {O : Value} {af : Fp} {V : List (Bool × List (Int × Int × Int) × List (Int × Int × Int))} {ao : Int} {ap : Int} {u : Int} {w : Int} {r : Int × Bool}
    (Y : WF H) (aa : Nd Zc 3 H O V af []) (ai : Row H U [O, i_ ao, i_ ap]) (am : Zar V ao ap u w = some r) :
    ACalls Tryz.prog 61 #[pt_ U 0, i_ u, i_ w] H fun v H' => v = .tuple #[.int .u64 r.1, .bool r.2] /\ FrS [] H H' := by
 refine ab_ Tryz.func61 ?_
 unfold Zar at am
 refine sq_ fun k1 => g_' (q_ (.int .u64 0) (q_ (.bool false) (Za (k1 _ _ (sq_ fun k2 => sq_ fun k3 => g_' (q_ (pt_ U 0) (q_ (i_ u) ?_)))))))
 obtain ⟨au, aC, ar⟩ := bs_ am
 refine ck_ (ZY Y aa ai aC) ?_
 rintro _ _ ⟨rfl, rfl⟩
 refine q_ (.bool (!au)) (Za (k3 _ _ ?_))
 refine wb_ ((!au)) (fun ah => ?_) fun ah => ?_
 ·have aK := Ze ah ar
  refine sq_ fun aD => g_' (q_ (.int .u64 0) (q_ (.bool false) (Za (aD _ _ ?_))))
  refine Zg (Zh ?_)
  refine br_ [.int .u64 0, .bool false] ?_
  obtain rfl := oi_ aK
  exact ⟨rfl, (f0_ Y)⟩
 have aL := ZL ah ar
 refine Zf (k2 _ _ (sq_ fun aE => g_' (q_ (pt_ U 0) (q_ (pt_ U 0) (q_ (pt_ U 0) (lr_ 123 0 (O) ai (q_ (i_ u) ?_)))))))
 obtain ⟨D, aM⟩ := Zb aL
 refine aa.ix_ 123 D.1 D.2 (l_' (elp O 3 u.toNat 1) (Zw Tryz.prog 138 (elp O 3 u.toNat 0) 1) (Nd.fldq (d := 1) aa D.1 D.2 (by kernel_rfl)) ?_)
 obtain ⟨aQ, aT, az, ax⟩ := Nd.at aa D.1 D.2
 have an : KdS Zc 3 H aQ ((gt V u).2.1) af O 3 u.toNat 1 := ax false (by simp)
 obtain ⟨av, aJ, aw, rfl⟩ := an.sq.form
 refine l_' (.slice av aJ aw) (aL_ 75 (elp O 3 u.toNat 1) H) (az _ _ _ _ (by kernel_rfl)) (q_ (i_ w) ?_)
 obtain ⟨e, aB, aq⟩ := bs_ aM
 refine ck_ (Zep Y an.sq aB) ?_
 rintro _ al ⟨rfl, ab⟩
 refine q_ (.tuple #[i_ e.1, .bool e.2]) (q_ (i_ e.1) (q_ (.bool e.2) (q_ (i_ e.1) (q_ (.bool e.2) (Za (aE _ _ (sq_ fun aF => sq_ fun aG => g_' (q_ (.bool e.2) (q_ (.bool (!e.2)) (Za (aG _ _ ?_)))))))))))
 refine wb_ ((!e.2)) (fun ag => ?_) fun ag => ?_
 ·have aN := Ze ag aq
  refine sq_ fun aH => g_' (q_ (.int .u64 0) (q_ (.bool false) (Za (aH _ _ ?_))))
  refine Zg (Zh ?_)
  refine br_ [.int .u64 0, .bool false] ?_
  obtain rfl := oi_ aN
  exact ⟨rfl, (fs_ Y (f0_ Y) ab in_)⟩
 have aO := ZL ag aq
 refine Zf (aF _ _ (sq_ fun aI => g_' (q_ (pt_ U 0) (q_ (pt_ U 0) (q_ (pt_ U 0) ?_)))))
 have aR := (ai.frS ab dn_)
 refine lr_ 123 0 (O) aR (q_ (i_ u) ?_)
 have ak := (aa.fr ab dn_)
 refine ak.ix_ 123 D.1 D.2 (l_' (elp O 3 u.toNat 1) (Zw Tryz.prog 138 (elp O 3 u.toNat 0) 1) (Nd.fldq (d := 1) ak D.1 D.2 (by kernel_rfl)) ?_)
 obtain ⟨aS, aU, aA, ay⟩ := Nd.at ak D.1 D.2
 have ac : KdS Zc 3 al aS ((gt V u).2.1) af O 3 u.toNat 1 := ay false (by simp)
 obtain ⟨ad, aj, ae, rfl⟩ := ac.sq.form
 refine l_' (.slice ad aj ae) (aL_ 75 (elp O 3 u.toNat 1) al) (aA _ _ _ _ (by kernel_rfl)) (q_ (i_ e.1) ?_)
 obtain ⟨Z, aP⟩ := Zb aO
 refine ac.sq.ix_ 75 Z.1 Z.2 (l_' (elp (.slice ad aj ae) 3 e.1.toNat 1) (Zw Tryz.prog 80 (elp (.slice ad aj ae) 3 e.1.toNat 0) 1) (Sq.fldq (d := 1) ac.sq Z.1 Z.2 (by kernel_rfl)) (le_ 27 1 (.int .u64 ((gt ((gt V u).2.1) e.1).2.1)) ac.sq Z.1 Z.2 (q_ (.int .u64 ((gt ((gt V u).2.1) e.1).2.1)) (q_ (.bool true) (Za (aI _ _ ?_))))))
 refine Zg ?_
 refine br_ [.int .u64 ((gt ((gt V u).2.1) e.1).2.1), .bool true] ?_
 obtain rfl := oi_ aP
 exact ⟨rfl, (fs_ Y (f0_ Y) ab in_)⟩
theorem ZiG {H : AH} {ar : Nat} {cg : Value} {de : Fp} {ba : Value} {df : Fp} {be : List (Bool × List (Int × Int × Int) × List (Int × Int × Int))} {bf : Int} {bg : Int} {ae : Int} {Z : Int} {bm : Int} {aT : Int} {out : List (Int × Int × Int)} {hops : Int} {settles : Int} {r : List (Int × Int × Int)}
    (ak : WF H) (cf : Nd Zc 3 H cg be de []) (ce : Row H ar [cg, i_ bf, i_ bg]) (dx : Sq Zc 3 H ba out df) (cx : Zdv be bf bg ae Z bm aT out hops settles = some r) :
    ACalls Tryz.prog 52 #[pt_ ar 0, .agg #[i_ ae, .int .u64 Z, i_ bm], i_ aT, ba, i_ hops, i_ settles] H fun v H' => ∃ (cR : Value) (ca : Fp), v = cR /\ FrS [] H H' /\ Ow ZB 3 H' cR r ca /\ Inn [] H ca := by
 refine ab_ Tryz.func52 ?_
 unfold Zdv at cx
 refine sq_ fun d5 => g_' ?_
 refine rl_ ak [i_ ae, .int .u64 Z, i_ bm] fun aq ax Y fT bh => ?_
 refine q_ (.slice none 0 0) (Za (d5 _ _ (sq_ fun dK => g_' (q_ (.slice none 0 0) (Za (dK _ _ (sq_ fun dL => g_' (q_ (.slice none 0 0) (Za (dL _ _ (sq_ fun dM => g_' (q_ (.int .u64 0) (Za (dM _ _ (sq_ fun dN => sq_ fun dQ => g_' (q_ (ba) ?_))))))))))))))))
 have cU := (dx.ext Y)
 refine cU.ln_ 75 (q_ (i_ 0) (Za (dQ _ _ ?_)))
 obtain ⟨D, dE, cL⟩ := bs_ cx
 refine ZC (fun α aV => ∃ (bU : Value) (f27 : Fp) (bV : Value) (a7 : Fp), Has α [(0, pt_ ar 0), (2, i_ aT), (4, i_ hops), (5, i_ settles), (7, pt_ aq 0), (13, bU), (14, bV), (15, .int .u64 D.2.2)] /\ FrS [] ax aV /\ Ow ZB 3 aV bU D.1 f27 /\ Ow (Zak .i64) 1 aV bV D.2.1 a7 /\ Inn [] ax f27 /\ Inn [] ax a7 /\ Dj f27 a7) (fun _ d2 => ?_) (fun α aV hM => ?_)
 ·refine Zm ?_
  obtain ⟨cH, dD⟩ := Zu.1 dE
  refine ZJ (fun n α aW => ∃ (open0 : List (Int × Int × Int)), ∃ (goals1 : List (Int)), ∃ (most2 : Int), ∃ (O : Int), ∃ (bW : Value), ∃ (aC : Fp), ∃ (bX : Value), ∃ (f48 : Fp), ZR (fun zz_ => Zce ae Z out zz_.1 zz_.2.1 zz_.2.2.1 zz_.2.2.2) n (open0, goals1, most2, O) = some D /\ Has α [(0, pt_ ar 0), (2, i_ aT), (4, i_ hops), (5, i_ settles), (7, pt_ aq 0), (13, bW), (14, bX), (15, .int .u64 most2), (25, ba), (26, i_ (out.length : Int)), (27, i_ O)] /\ FrS [] ax aW /\ Ow ZB 3 aW bW open0 aC /\ Ow (Zak .i64) 1 aW bX goals1 f48 /\ Inn [] ax aC /\ Inn [] ax f48 /\ Dj aC f48) cH ⟨[], [], 0, 0, (.slice none 0 0), [], (.slice none 0 0), [], dD, ha_, (fr_ Y.wf), (Ow.nil (by decide)), (Ow.nil (by decide)), in_, in_, dn_⟩ ?_
  rintro cH α aW ⟨open0, goals1, most2, O, bW, aC, bX, f48, dB, cn, ah, av, aw, bb, aN, aZ⟩ fC cz
  obtain ⟨cI, z55, rfl, aM, bH⟩ := Zy dB
  obtain ⟨β, rfl⟩ := Zk cn
  clear cn
  replace aM : Zce ae Z out open0 goals1 most2 O = some z55 := aM
  unfold Zce at aM
  obtain ⟨br, bO, bx, rfl⟩ := av.form
  obtain ⟨bs, bP, bz, rfl⟩ := aw.form
  refine sq_ fun d6 => g_' (q_ (.bool (decide (O < (out.length : Int)))) (Za (d6 _ _ (sq_ fun d7 => ?_))))
  refine wc_ (O < (out.length : Int)) (fun aK => ?_) fun aK => ?_
  ·have eU := Ze aK aM
   refine Zf (d7 _ _ (sq_ fun cA => Zm (sq_ fun d8 => g_' ?_)))
   obtain ⟨cd, cQ⟩ := Zb eU
   have cY := (cU.fr ah dn_)
   refine cY.ix_ 75 cd aK (le_ 80 0 (.agg #[i_ ((gt out O).1), .int .u64 ((gt out O).2.1), i_ ((gt out O).2.2)]) cY cd aK ?_)
   refine rk_ ah.wf [i_ 0, .int .u64 0, i_ 0] fun aH fy ai ao eV => ?_
   obtain ⟨fz, eq, aj, bR⟩ := ra_ 80 0 ai.wf eV [i_ ((gt out O).1), .int .u64 ((gt out O).2.1), i_ ((gt out O).2.2)] [i_ ((gt out O).1), .int .u64 ((gt out O).2.1), i_ ((gt out O).2.2)]
   refine ek_ eq (Za (d8 _ _ (sq_ fun d9 => sq_ fun d_ => g_' (q_ (pt_ aH 0) (lr_ 3 0 (i_ ((gt out O).1)) bR (q_ (pt_ aq 0) ?_))))))
   have c7 := (ao.djn (bh.ltF.le ah.n))
   have cZ := (((bh.frS ah dn_).ext ai).frS aj c7)
   refine lr_ 3 0 (i_ ae) cZ (q_ (.bool (decide (((gt out O).1) = ae))) (Za (d_ _ _ ?_)))
   refine wc_ (((gt out O).1) = ae) (fun bF => ?_) fun bF => ?_
   ·have eW := Ze bF cQ
    refine ZK (Zj (ZV ?_))
    refine cA _ _ (g_' ?_)
    obtain ⟨dw, eX⟩ := Zb eW
    refine w_' ((O + 1)) (Zn (by have := dw; omega)) (q_ (i_ (O + 1)) (Za ?_))
    have fa := ((av.ext ai).fr aj (ao.djn av.lt))
    have fb := ((aw.ext ai).fr aj (ao.djn aw.lt))
    obtain rfl := oi_ eX
    exact cz cI _ _ lt_ ⟨open0, goals1, most2, (O + 1), (.slice br bO bx), aC, (.slice bs bP bz), f48, bH, ha_, (fs_ Y.wf ((fs_ Y.wf (fr_ Y.wf) ah in_).extR ai) aj (ao.fresh ah.n)), fa, fb, (bb.fresh (Nat.le_refl _)), (aN.fresh (Nat.le_refl _)), aZ⟩
   have eY := Zi bF cQ
   refine Zf (d9 _ _ (sq_ fun ea => g_' (q_ (.slice bs bP bz) (q_ (pt_ aH 0) (lr_ 3 0 (i_ ((gt out O).1)) bR ?_)))))
   refine Zbl (enc := (Zak .i64)) (sz := 1) aj.wf [(gt out O).1] 1 (by decide) (fun _ _ => rfl) (fun _ _ => rfl) rfl (by kernel_rfl) fun ge fS fA am fU co => ?_
   obtain ⟨fD, f2, fH, rfl⟩ := co.form
   have e0 := (((aw.ext ai).fr aj (ao.djn aw.lt)).ext am)
   obtain ⟨dg, es⟩ := Zb eY
   obtain ⟨f7, ff, da, ek, aA, bG, ch⟩ := Ow.append (P := Tryz.prog) 8 am.wf e0 co.sq (fun _ _ => rfl) (at_ := #[26, 26]) rfl rfl (by kernel_rfl) (by kernel_rfl) (by decide) (by have := dg; first | omega | (simp only [List.length_cons, List.length_nil] at this ⊢; omega) | (simp at this ⊢; omega))
   obtain ⟨bn, bK, bt, rfl⟩ := bG.form
   refine ZaN (.slice bn bK bt) (by kernel_rfl) (ek) ?_
   refine q_ (.slice bn bK bt) (Za (ea _ _ (sq_ fun dJ => g_' (q_ (.int .u64 most2) (q_ (pt_ aq 1) ?_)))))
   have bY := ((cZ.ext am).frS aA (aN.djn bh.ltF))
   refine lr_ 27 1 (.int .u64 Z) bY (q_ (pt_ aH 1) ?_)
   have c0 := (ao.djn aw.lt)
   have bZ := ((bR.ext am).frS aA (Dj.symm c0))
   refine lr_ 27 1 (.int .u64 ((gt out O).2.1)) bZ ?_
   obtain ⟨dh, et⟩ := Zb es
   refine s_w ((Z + ((gt out O).2.1))) (k := .u64) (x := (Z + ((gt out O).2.1))) (by kernel_rfl) (Zdw dh) ?_
   refine l_' (.int .u64 (max most2 (Z + ((gt out O).2.1)))) (Zfx Tryz.prog [.int .u64 most2, .int .u64 (Z + ((gt out O).2.1))]) (ZeV _ _) (q_ (.int .u64 (max most2 (Z + ((gt out O).2.1)))) (Za (dJ _ _ (g_' (q_ (.slice br bO bx) (q_ (pt_ aq 0) (lr_ 3 0 (i_ ae) bY (q_ (pt_ aH 0) (lr_ 3 0 (i_ ((gt out O).1)) bZ (q_ (pt_ aq 1) (lr_ 27 1 (.int .u64 Z) bY (q_ (pt_ aH 1) (lr_ 27 1 (.int .u64 ((gt out O).2.1)) bZ ?_)))))))))))))
   obtain ⟨di, eu⟩ := Zb et
   refine s_w ((Z + ((gt out O).2.1))) (k := .u64) (x := (Z + ((gt out O).2.1))) (by kernel_rfl) (Zdw (by have := di; omega)) ?_
   refine q_ (.agg #[i_ ae, i_ ((gt out O).1), .int .u64 (Z + ((gt out O).2.1))]) ?_
   refine Zbl (enc := ZB) (sz := 3) aA.wf [(ae, (gt out O).1, (Z + ((gt out O).2.1)))] 1 (by decide) (fun _ _ => rfl) (fun _ _ => rfl) rfl (by kernel_rfl) fun f8 fN fg aB fV cp => ?_
   obtain ⟨fE, f3, fI, rfl⟩ := cp.form
   have e1 := (((((av.ext ai).fr aj (ao.djn av.lt)).ext am).fr aA (Dj.symm aZ)).ext aB)
   obtain ⟨dk, ev⟩ := Zb eu
   obtain ⟨f9, fh, db, el, b_, cq, ci⟩ := Ow.append (P := Tryz.prog) 24 aB.wf e1 cp.sq (fun _ _ => rfl) (at_ := #[54, 54]) rfl rfl (by kernel_rfl) (by kernel_rfl) (by decide) (by have := dk; first | omega | (simp only [List.length_cons, List.length_nil] at this ⊢; omega) | (simp at this ⊢; omega))
   obtain ⟨bo, bL, bu, rfl⟩ := cq.form
   refine ZaN (.slice bo bL bu) (by kernel_rfl) (el) ?_
   refine q_ (.slice bo bL bu) (Za (cA _ _ (g_' ?_)))
   obtain ⟨dm, ew⟩ := Zb ev
   refine w_' ((O + 1)) (Zn (by have := dm; omega)) (q_ (i_ (O + 1)) (Za ?_))
   have ec := (t_ (t_ ai.n aj.n) am.n)
   have b9 := (ch.dj (Dj.symm aZ) (av.lt.le ec))
   have e2 := ((bG.ext aB).fr b_ (Dj.symm b9))
   have ed := (t_ (t_ (t_ (t_ (t_ ah.n ai.n) aj.n) am.n) aA.n) aB.n)
   have ee := (t_ (t_ (t_ ah.n ai.n) aj.n) am.n)
   have c3 := (ci.dj (Dj.symm b9) (bG.lt.le aB.n))
   obtain rfl := oi_ ew
   exact cz cI _ _ lt_ ⟨(open0 ++ [(ae, (gt out O).1, (Z + ((gt out O).2.1)))]), (goals1 ++ [(gt out O).1]), (max most2 (Z + ((gt out O).2.1))), (O + 1), (.slice bo bL bu), db, (.slice bn bK bt), da, bH, ha_, (fs_ Y.wf ((fs_ Y.wf ((fs_ Y.wf ((fs_ Y.wf (fr_ Y.wf) ah in_).extR ai) aj (ao.fresh ah.n)).extR am) aA (aN.fresh (Nat.le_refl _))).extR aB) b_ (bb.fresh (Nat.le_refl _))), cq, e2, (Inn.trans (bb.fresh (Nat.le_refl _)) ed ci), (Inn.trans (aN.fresh (Nat.le_refl _)) ee ch), c3⟩
  have ex := Zi aK aM
  refine ZK (Zj (Zj (ZV ?_)))
  obtain rfl := oi_ ex
  obtain rfl := Zx bH
  exact d2 _ _ ⟨(.slice br bO bx), aC, (.slice bs bP bz), f48, ha_, (fs_ Y.wf (fr_ Y.wf) ah in_), av, aw, (bb.fresh (Nat.le_refl _)), (aN.fresh (Nat.le_refl _)), aZ⟩
 obtain ⟨bU, f27, bV, a7, cm, al, cC, bJ, f0, f1, fM⟩ := hM
 obtain ⟨β, rfl⟩ := Zk cm
 clear cm
 obtain ⟨b5, cD, b7, rfl⟩ := cC.form
 obtain ⟨b6, cE, b8, rfl⟩ := bJ.form
 refine dN _ _ (sq_ fun dO => sq_ fun dP => g_' (q_ (.slice b6 cE b8) (bJ.sq.ln_ 26 (q_ (.bool (decide ((D.2.1.length : Int) = 0))) (Za (dP _ _ ?_))))))
 refine wc_ ((D.2.1.length : Int) = 0) (fun bA => ?_) fun bA => ?_
 ·have ey := Ze bA cL
  refine sq_ fun dR => g_' (q_ (.slice none 0 0) (Za (dR _ _ ?_)))
  refine Zg (Zh ?_)
  refine br_ [.slice none 0 0] ?_
  obtain rfl := oi_ ey
  exact ⟨(.slice none 0 0), [], rfl, (fs_ ak ((f0_ ak).extR Y) al in_), (Ow.nil (by decide)), in_⟩
 have ez := Zi bA cL
 refine Zf (dO _ _ (sq_ fun dS => g_' (q_ (pt_ ar 0) (q_ (pt_ aq 0) ?_))))
 have e3 := (bh.frS al dn_)
 refine lr_ 3 0 (i_ ae) e3 (q_ (i_ aT) (q_ (.slice b6 cE b8) (q_ (.int .u64 D.2.2) (q_ (i_ hops) (q_ (i_ settles) ?_)))))
 have cS := ((cf.ext Y).fr al dn_)
 have cT := ((ce.ext Y).frS al dn_)
 obtain ⟨bj, dG, cK⟩ := bs_ ez
 refine ck_ (Zig al.wf cS cT bJ.sq dG) ?_
 rintro _ aU ⟨f_, fO, bi, fP, rfl, U, bI, eb, fY, fZ, fL⟩
 obtain ⟨aF, aQ, aI, rfl⟩ := bI.form
 refine q_ (.tuple #[.slice aF aQ aI, bi]) (q_ (.slice aF aQ aI) (q_ (bi) (q_ (.slice aF aQ aI) (q_ (bi) (Za (dS _ _ (sq_ fun dT => sq_ fun cy => g_' (q_ (bi) ?_))))))))
 rcases (eb).cases with ⟨bB, rfl⟩ | ⟨bB, eZ, fc, rfl⟩
 ·have eA := Ze bB cK
  refine q_ (.bool false) (Za (cy _ _ ?_))
  refine wb_ false (fun h => by cases h) fun _ => ?_
  refine Zf (dT _ _ (sq_ fun dU => g_' (q_ (.slice none 0 0) (Za (dU _ _ (sq_ fun dV => sq_ fun dW => g_' (q_ (.slice b5 cD b7) ?_)))))))
  have cV := (cC.fr U dn_)
  refine cV.sq.ln_ 54 (q_ (i_ 0) (Za (dW _ _ ?_)))
  obtain ⟨cJ, dF, eB⟩ := bs_ eA
  refine ZC (fun α bk => ∃ (bS : Value) (a6 : Fp), Has α [(20, bS)] /\ FrS [] aU bk /\ Ow ZB 3 bk bS cJ a6 /\ Inn [] aU a6) (fun _ dX => ?_) (fun α bk hM => ?_)
  ·refine Zm ?_
   obtain ⟨cF, dC⟩ := Zu.1 dF
   refine ZJ (fun n α bl => ∃ (an : List (Int × Int × Int)), ∃ (e : Int), ∃ (bT : Value), ∃ (au : Fp), ZR (fun zz_ => Zcd be bf bg D bj zz_.1 zz_.2) n (an, e) = some cJ /\ Has α [(0, pt_ ar 0), (18, .slice aF aQ aI), (20, bT), (79, .slice b5 cD b7), (80, i_ (D.1.length : Int)), (81, i_ e)] /\ FrS [] aU bl /\ Ow ZB 3 bl bT an au /\ Inn [] aU au) cF ⟨[], 0, (.slice none 0 0), [], dC, ha_, (fr_ U.wf), (Ow.nil (by decide)), in_⟩ ?_
   rintro cF α bl ⟨an, e, bT, au, dA, ck, V, ag, ap⟩ fB aO
   obtain ⟨aR, fd, rfl, aL, aD⟩ := Zy dA
   obtain ⟨β, rfl⟩ := Zk ck
   clear ck
   replace aL : Zcd be bf bg D bj an e = some fd := aL
   unfold Zcd at aL
   obtain ⟨ay, aE, az, rfl⟩ := ag.form
   refine sq_ fun dY => g_' (q_ (.bool (decide (e < (D.1.length : Int)))) (Za (dY _ _ (sq_ fun dZ => ?_))))
   refine wc_ (e < (D.1.length : Int)) (fun aJ => ?_) fun aJ => ?_
   ·have eC := Ze aJ aL
    refine Zf (dZ _ _ (sq_ fun aP => Zm (sq_ fun d0 => g_' (q_ (i_ e) ?_))))
    obtain ⟨a8, eD⟩ := Zb eC
    have cW := (cV.fr V dn_)
    refine cW.sq.ix_ 54 a8 aJ (le_ 131 0 (.agg #[i_ ((gt D.1 e).1), i_ ((gt D.1 e).2.1), .int .u64 ((gt D.1 e).2.2)]) cW.sq a8 aJ ?_)
    refine rk_ V.wf [i_ 0, i_ 0, .int .u64 0] fun aG fj aa af eE => ?_
    refine q_ (i_ e) ?_
    obtain ⟨fm, em, ab, bQ⟩ := ra_ 131 0 aa.wf eE [i_ ((gt D.1 e).1), i_ ((gt D.1 e).2.1), .int .u64 ((gt D.1 e).2.2)] [i_ ((gt D.1 e).1), i_ ((gt D.1 e).2.1), .int .u64 ((gt D.1 e).2.2)]
    refine ek_ em (Za (d0 _ _ (sq_ fun d1 => g_' (q_ (pt_ ar 0) (q_ (pt_ aG 0) (lr_ 3 0 (i_ ((gt D.1 e).1)) bQ (q_ (pt_ aG 1) (lr_ 3 1 (i_ ((gt D.1 e).2.1)) bQ ?_))))))))
    have cG := (t_ (t_ (t_ Y.n al.n) U.n) V.n)
    have c4 := (af.djn (cf.lt.le cG))
    have e4 := ((((cS.fr U dn_).fr V dn_).ext aa).fr ab c4)
    have c5 := (af.djn (ce.ltF.le cG))
    have e5 := ((((cT.frS U dn_).frS V dn_).ext aa).frS ab c5)
    obtain ⟨ad, dH, cM⟩ := bs_ eD
    refine ck_ (ZdC ab.wf e4 e5 dH) ?_
    rintro _ fo ⟨rfl, ac⟩
    refine q_ (.tuple #[.int .u64 ad.1, .bool ad.2]) (q_ (.int .u64 ad.1) (q_ (.bool ad.2) (q_ (.int .u64 ad.1) (q_ (.bool ad.2) (Za (d1 _ _ (sq_ fun bc => ?_)))))))
    refine ZQ [0, 1, 2, 3, 4, 5, 6, 7, 8, 9, 10, 11, 12, 13, 14, 15, 16, 17, 18, 19, 20, 21] (by kernel_rfl) ?_
    refine e_' (pt_ aG 2) ?_
    have aS := (bQ.frS ac dn_)
    refine mr_ 27 2 (.int .u64 ((gt D.1 e).2.2)) aS ?_
    refine db_ (((gt D.1 e).2.2) ≤ 140737488355328) (fun bC => ?_) fun bC => ?_
    ·have eF := Ze bC cM
     refine e_' (.bool true) (e_' (.slice aF aQ aI) (e_' (i_ e) ?_))
     obtain ⟨cc, cN⟩ := Zb eF
     have c6 := (af.djn (bI.lt.le V.n))
     have cX := ((((bI.fr V dn_).ext aa).fr ab c6).fr ac dn_)
     refine cX.sq.mx_ 36 a8 cc (me_ 27 0 (.int .u64 (gt bj.1 e)) cX.sq a8 cc (e_' (pt_ aG 2) (mr_ 27 2 (.int .u64 ((gt D.1 e).2.2)) aS ?_)))
     refine db_ ((gt bj.1 e) > ((gt D.1 e).2.2)) (fun bD => ?_) fun bD => ?_
     ·have cO := Ze bD cN
      refine e_' (.bool true) (e_' (.bool true) (e_' (.bool ad.2) (e_' (.bool ad.2) ?_)))
      by_cases a_ : ad.2 = true
      ·have cP := Ze a_ cO
       rw [a_]
       refine e_' (.int .u64 ad.1) (e_' (pt_ aG 2) (mr_ 27 2 (.int .u64 ((gt D.1 e).2.2)) aS (e_' (.bool (decide (ad.1 ≤ ((gt D.1 e).2.2)))) (e_' (.bool (decide (ad.1 ≤ ((gt D.1 e).2.2)))) (e_' (.bool (!decide (ad.1 ≤ ((gt D.1 e).2.2)))) (e_' (.bool (!decide (ad.1 ≤ ((gt D.1 e).2.2)))) ?_))))))
       refine ZI ?_
       refine bc _ _ ?_
       refine Zde (ad.1 ≤ ((gt D.1 e).2.2)) (by kernel_rfl) rfl (fun bE => ?_) (fun bE => ?_)
       ·have eG := Zi bE cP
        refine g_' (q_ (.slice ay aE az) (lr_ 131 0 (.agg #[i_ ((gt D.1 e).1), i_ ((gt D.1 e).2.1), .int .u64 ((gt D.1 e).2.2)]) aS ?_))
        refine Zbl (enc := ZB) (sz := 3) ac.wf [((gt D.1 e).1, (gt D.1 e).2.1, (gt D.1 e).2.2)] 1 (by decide) (fun _ _ => rfl) (fun _ _ => rfl) rfl (by kernel_rfl) fun ga fQ fu a1 fW cr => ?_
        obtain ⟨fF, f4, fJ, rfl⟩ := cr.form
        have e6 := ((((ag.ext aa).fr ab (af.djn ag.lt)).fr ac dn_).ext a1)
        obtain ⟨dn, eH⟩ := Zb eG
        obtain ⟨gb, fv, dc, eo, c9, cu, dy⟩ := Ow.append (P := Tryz.prog) 24 a1.wf e6 cr.sq (fun _ _ => rfl) (at_ := #[54, 54]) rfl rfl (by kernel_rfl) (by kernel_rfl) (by decide) (by have := dn; first | omega | (simp only [List.length_cons, List.length_nil] at this ⊢; omega) | (simp at this ⊢; omega))
        obtain ⟨bp, bM, bv, rfl⟩ := cu.form
        refine ZaN (.slice bp bM bv) (by kernel_rfl) (eo) ?_
        refine q_ (.slice bp bM bv) (Za (aP _ _ (g_' ?_)))
        obtain ⟨dp, eI⟩ := Zb eH
        refine w_' ((e + 1)) (Zn (by have := dp; omega)) (q_ (i_ (e + 1)) (Za ?_))
        have ef := (t_ (t_ (t_ (t_ V.n aa.n) ab.n) ac.n) a1.n)
        obtain rfl := oi_ eI
        exact aO aR _ _ lt_ ⟨(an ++ [((gt D.1 e).1, (gt D.1 e).2.1, (gt D.1 e).2.2)]), (e + 1), (.slice bp bM bv), dc, aD, ha_, (fs_ U.wf ((fs_ U.wf (fs_ U.wf ((fs_ U.wf (fr_ U.wf) V in_).extR aa) ab (af.fresh V.n)) ac in_).extR a1) c9 (ap.fresh (Nat.le_refl _))), cu, (Inn.trans (ap.fresh (Nat.le_refl _)) ef dy)⟩
       have eJ := Ze bE cP
       refine Zf (aP _ _ (g_' ?_))
       obtain ⟨dq, eK⟩ := Zb eJ
       refine w_' ((e + 1)) (Zn (by have := dq; omega)) (q_ (i_ (e + 1)) (Za ?_))
       have e7 := (((ag.ext aa).fr ab (af.djn ag.lt)).fr ac dn_)
       obtain rfl := oi_ eK
       exact aO aR _ _ lt_ ⟨an, (e + 1), (.slice ay aE az), au, aD, ha_, (fs_ U.wf (fs_ U.wf ((fs_ U.wf (fr_ U.wf) V in_).extR aa) ab (af.fresh V.n)) ac in_), e7, (ap.fresh (Nat.le_refl _))⟩
      have eL := Zi a_ cO
      rw [nb a_]
      refine j_' (j_' (j_' (j_' (e_' (.bool false) (e_' (.bool true) (e_' (.bool true) ?_))))))
      refine ZI ?_
      refine bc _ _ ?_
      refine wb_ true (fun _ => ?_) fun h => by cases h
      refine g_' (q_ (.slice ay aE az) (lr_ 131 0 (.agg #[i_ ((gt D.1 e).1), i_ ((gt D.1 e).2.1), .int .u64 ((gt D.1 e).2.2)]) aS ?_))
      refine Zbl (enc := ZB) (sz := 3) ac.wf [((gt D.1 e).1, (gt D.1 e).2.1, (gt D.1 e).2.2)] 1 (by decide) (fun _ _ => rfl) (fun _ _ => rfl) rfl (by kernel_rfl) fun gc fR fw a2 fX cv => ?_
      obtain ⟨fG, f5, fK, rfl⟩ := cv.form
      have e8 := ((((ag.ext aa).fr ab (af.djn ag.lt)).fr ac dn_).ext a2)
      obtain ⟨dr, eM⟩ := Zb eL
      obtain ⟨gd, fx, dd, ep, c_, cw, dz⟩ := Ow.append (P := Tryz.prog) 24 a2.wf e8 cv.sq (fun _ _ => rfl) (at_ := #[54, 54]) rfl rfl (by kernel_rfl) (by kernel_rfl) (by decide) (by have := dr; first | omega | (simp only [List.length_cons, List.length_nil] at this ⊢; omega) | (simp at this ⊢; omega))
      obtain ⟨bq, bN, bw, rfl⟩ := cw.form
      refine ZaN (.slice bq bN bw) (by kernel_rfl) (ep) ?_
      refine q_ (.slice bq bN bw) (Za (aP _ _ (g_' ?_)))
      obtain ⟨dt, eN⟩ := Zb eM
      refine w_' ((e + 1)) (Zn (by have := dt; omega)) (q_ (i_ (e + 1)) (Za ?_))
      have eh := (t_ (t_ (t_ (t_ V.n aa.n) ab.n) ac.n) a2.n)
      obtain rfl := oi_ eN
      exact aO aR _ _ lt_ ⟨(an ++ [((gt D.1 e).1, (gt D.1 e).2.1, (gt D.1 e).2.2)]), (e + 1), (.slice bq bN bw), dd, aD, ha_, (fs_ U.wf ((fs_ U.wf (fs_ U.wf ((fs_ U.wf (fr_ U.wf) V in_).extR aa) ab (af.fresh V.n)) ac in_).extR a2) c_ (ap.fresh (Nat.le_refl _))), cw, (Inn.trans (ap.fresh (Nat.le_refl _)) eh dz)⟩
     have eO := Zi bD cN
     refine e_' (.bool false) (e_' (.bool false) (j_' (j_' (j_' (j_' (j_' (j_' (j_' (j_' (e_' (.bool false) ?_))))))))))
     refine ZI ?_
     refine bc _ _ ?_
     refine wb_ false (fun h => by cases h) fun _ => ?_
     refine Zf (aP _ _ (g_' ?_))
     obtain ⟨du, eP⟩ := Zb eO
     refine w_' ((e + 1)) (Zn (by have := du; omega)) (q_ (i_ (e + 1)) (Za ?_))
     have e9 := (((ag.ext aa).fr ab (af.djn ag.lt)).fr ac dn_)
     obtain rfl := oi_ eP
     exact aO aR _ _ lt_ ⟨an, (e + 1), (.slice ay aE az), au, aD, ha_, (fs_ U.wf (fs_ U.wf ((fs_ U.wf (fr_ U.wf) V in_).extR aa) ab (af.fresh V.n)) ac in_), e9, (ap.fresh (Nat.le_refl _))⟩
    have eQ := Zi bC cM
    refine e_' (.bool false) (j_' (j_' (j_' (j_' (j_' (j_' (j_' (e_' (.bool false) (e_' (.bool false) (j_' (j_' (j_' (j_' (j_' (j_' (j_' (j_' (e_' (.bool false) ?_))))))))))))))))))
    refine ZI ?_
    refine bc _ _ ?_
    refine wb_ false (fun h => by cases h) fun _ => ?_
    refine Zf (aP _ _ (g_' ?_))
    obtain ⟨dv, eR⟩ := Zb eQ
    refine w_' ((e + 1)) (Zn (by have := dv; omega)) (q_ (i_ (e + 1)) (Za ?_))
    have e_ := (((ag.ext aa).fr ab (af.djn ag.lt)).fr ac dn_)
    obtain rfl := oi_ eR
    exact aO aR _ _ lt_ ⟨an, (e + 1), (.slice ay aE az), au, aD, ha_, (fs_ U.wf (fs_ U.wf ((fs_ U.wf (fr_ U.wf) V in_).extR aa) ab (af.fresh V.n)) ac in_), e_, (ap.fresh (Nat.le_refl _))⟩
   have eS := Zi aJ aL
   refine ZK (Zj (Zj (ZV ?_)))
   obtain rfl := oi_ eS
   obtain rfl := Zx aD
   exact dX _ _ ⟨(.slice ay aE az), au, ha_, (fs_ U.wf (fr_ U.wf) V in_), ag, (ap.fresh (Nat.le_refl _))⟩
  obtain ⟨bS, a6, cj, c8, cB, dI⟩ := hM
  obtain ⟨β, rfl⟩ := Zk cj
  clear cj
  obtain ⟨aX, bd, aY, rfl⟩ := cB.form
  refine dV _ _ (sq_ fun d3 => g_' (q_ (.slice aX bd aY) (q_ (.slice aX bd aY) (Za (d3 _ _ ?_)))))
  refine Zg ?_
  refine br_ [.slice aX bd aY] ?_
  have ej := (t_ (t_ Y.n al.n) U.n)
  obtain rfl := oi_ eB
  exact ⟨(.slice aX bd aY), a6, rfl, (fs_ ak (fs_ ak (fs_ ak ((f0_ ak).extR Y) al in_) U in_) c8 in_), cB, (dI.fresh ej)⟩
 have eT := Zi bB cK
 refine l_' (.bool true) (Zb1 Tryz.prog .neq 38 (.tmp 77) (.const .nilIface) (.iface eZ fc) .nilIface) (Zd7 (by kernel_rfl)) (Za (cy _ _ ?_))
 refine wb_ true (fun _ => ?_) fun h => by cases h
 refine sq_ fun d4 => g_' (q_ (.slice none 0 0) (Za (d4 _ _ ?_)))
 refine Zg (Zh ?_)
 refine br_ [.slice none 0 0] ?_
 obtain rfl := oi_ eT
 exact ⟨(.slice none 0 0), [], rfl, (fs_ ak (fs_ ak ((f0_ ak).extR Y) al in_) U in_), (Ow.nil (by decide)), in_⟩
theorem Zed {H : AH} {aa : Nat} {aZ : Value} {bC : Fp} {aB : List (Bool × List (Int × Int × Int) × List (Int × Int × Int))} {aC : Int} {aD : Int} {Z : Int} {aq : Int} {ar : Int} {ao : Int} {am : Int} {an : Int} {r : List (Int × Int × Int) × Er}
    (ad : WF H) (aY : Nd Zc 3 H aZ aB bC []) (aX : Row H aa [aZ, i_ aC, i_ aD]) (a8 : ZbT aB aC aD Z aq ar ao am an = some r) :
    ACalls Tryz.prog 19 #[pt_ aa 0, i_ Z, .agg #[i_ aq, i_ ar, i_ ao, i_ am, i_ an]] H fun v H' => ∃ (bi : Value) (aK : Fp) (br : Value) (aL : Fp), v = .tuple #[bi, br] /\ FrS [] H H' /\ Ow ZB 3 H' bi r.1 aK /\ Ev 78 116 H' br r.2 aL /\ Inn [] H aK /\ Inn [] H aL /\ Dj aK aL := by
 refine ab_ Tryz.func19 ?_
 unfold ZbT at a8
 refine sq_ fun bV => g_' ?_
 refine rl_ ad [i_ aq, i_ ar, i_ ao, i_ am, i_ an] fun cQ cI Y cV cr => ?_
 refine q_ (.slice none 0 0) (q_ (.nilIface) (Za (bV _ _ (sq_ fun bY => sq_ fun bZ => g_' (q_ (pt_ aa 0) (q_ (i_ Z) ?_))))))
 have bk := (aY.ext Y)
 have bl := (aX.ext Y)
 obtain ⟨c6, bK, bh⟩ := bs_ a8
 refine ck_ (Zia Y.wf bk bl bK) ?_
 rintro bq _ ⟨_, f27, rfl, rfl, bb, bO⟩
 refine q_ (bq) (Za (bZ _ _ (sq_ fun a_ => g_' (q_ (bq) ?_))))
 rcases (bb).cases with ⟨aM, rfl⟩ | ⟨aM, ak, al, rfl⟩
 ·have cv := Ze aM bh
  refine q_ (.bool false) (Za (a_ _ _ ?_))
  refine wb_ false (fun h => by cases h) fun _ => ?_
  refine Zf (bY _ _ (sq_ fun b5 => g_' (lr_ 53 0 (.agg #[i_ aq, i_ ar, i_ ao, i_ am, i_ an]) cr ?_)))
  obtain ⟨U, bL, cw⟩ := bs_ cv
  refine ck_ (Zhh Y.wf bL) ?_
  rintro _ cL ⟨rfl, ae⟩
  refine q_ (.tuple #[i_ U.1, i_ U.2]) (q_ (i_ U.1) (q_ (i_ U.2) (q_ (i_ U.1) (q_ (i_ U.2) (Za (b5 _ _ (sq_ fun b6 => g_' (q_ (pt_ aa 0) (q_ (i_ Z) ?_)))))))))
  have bm := (bk.fr ae dn_)
  have bn := (bl.frS ae dn_)
  obtain ⟨bs, bM, cx⟩ := bs_ cw
  refine ck_ (Zcu ae.wf bm bn bM) ?_
  rintro c4 cM ⟨_, cT, rfl, af, aO, cX⟩
  obtain ⟨aH, aR, aJ, rfl⟩ := aO.form
  refine q_ (.slice aH aR aJ) (Za (b6 _ _ (sq_ fun b7 => g_' (q_ (.slice none 0 0) (Za (b7 _ _ (sq_ fun b8 => sq_ fun b9 => g_' (q_ (pt_ aa 0) (q_ (i_ Z) ?_)))))))))
  have bo := (bm.fr af dn_)
  have bp := (bn.frS af dn_)
  obtain ⟨D, bN, cy⟩ := bs_ cx
  refine ck_ (Zd9 af.wf bo bp bN) ?_
  rintro c5 ap ⟨_, cU, rfl, O, aP, cY⟩
  obtain ⟨bt, cf, bu, rfl⟩ := aP.form
  refine aP.sq.ln_ 75 (q_ (i_ 0) (Za (b9 _ _ ?_)))
  obtain ⟨bg, bI, cz⟩ := bs_ cy
  refine ZC (fun α aE => ∃ (aS : Value) (ax : Fp), Has α [(12, aS)] /\ FrS [] ap aE /\ Ow ZB 3 aE aS bg ax /\ Inn [] ap ax) (fun _ b_ => ?_) (fun α aE hM => ?_)
  ·refine Zm ?_
   obtain ⟨bf, bH⟩ := Zu.1 bI
   refine ZJ (fun n α aF => ∃ (aj : List (Int × Int × Int)), ∃ (e : Int), ∃ (aT : Value), ∃ (ay : Fp), ZR (fun zz_ => Zcj aB aC aD Z U bs D zz_.1 zz_.2) n (aj, e) = some bg /\ Has α [(0, pt_ aa 0), (1, i_ Z), (9, i_ U.1), (10, i_ U.2), (11, .slice aH aR aJ), (12, aT), (31, .slice bt cf bu), (32, i_ (D.length : Int)), (33, i_ e)] /\ FrS [] ap aF /\ Ow ZB 3 aF aT aj ay /\ Inn [] ap ay) bf ⟨[], 0, (.slice none 0 0), [], bH, ha_, (fr_ O.wf), (Ow.nil (by decide)), in_⟩ ?_
   rintro bf α aF ⟨aj, e, aT, ay, bG, a2, V, az, aN⟩ cN bQ
   obtain ⟨ca, cF, rfl, ai, a7⟩ := Zy bG
   obtain ⟨β, rfl⟩ := Zk a2
   clear a2
   replace ai : Zcj aB aC aD Z U bs D aj e = some cF := ai
   unfold Zcj at ai
   obtain ⟨aU, bd, aV, rfl⟩ := az.form
   refine sq_ fun bR => g_' (q_ (.bool (decide (e < (D.length : Int)))) (Za (bR _ _ (sq_ fun bS => ?_))))
   refine wc_ (e < (D.length : Int)) (fun ag => ?_) fun ag => ?_
   ·have ci := Ze ag ai
    refine Zf (bS _ _ (sq_ fun bT => Zm (sq_ fun bU => g_' ?_)))
    obtain ⟨aW, cj⟩ := Zb ci
    have bj := (aP.fr V dn_)
    refine bj.sq.ix_ 75 aW ag (le_ 80 0 (.agg #[i_ ((gt D e).1), .int .u64 ((gt D e).2.1), i_ ((gt D e).2.2)]) bj.sq aW ag ?_)
    refine rk_ V.wf [i_ 0, .int .u64 0, i_ 0] fun cP cG ab ah ck => ?_
    obtain ⟨cH, cg, ac, cm⟩ := ra_ 80 0 ab.wf ck [i_ ((gt D e).1), .int .u64 ((gt D e).2.1), i_ ((gt D e).2.2)] [i_ ((gt D e).1), .int .u64 ((gt D e).2.1), i_ ((gt D e).2.2)]
    refine ek_ cg (Za (bU _ _ (g_' (q_ (.slice aU bd aV) (q_ (pt_ aa 0) (lr_ 80 0 (.agg #[i_ ((gt D e).1), .int .u64 ((gt D e).2.1), i_ ((gt D e).2.2)]) cm (q_ (i_ Z) (q_ (.slice aH aR aJ) (q_ (i_ U.1) (q_ (i_ U.2) ?_))))))))))
    have be := (t_ (t_ (t_ (t_ Y.n ae.n) af.n) O.n) V.n)
    have bv := (ah.djn (aY.lt.le be))
    have cA := ((((bo.fr O dn_).fr V dn_).ext ab).fr ac bv)
    have bw := (ah.djn (aX.ltF.le be))
    have cB := ((((bp.frS O dn_).frS V dn_).ext ab).frS ac bw)
    have cc := (t_ O.n V.n)
    have bx := (ah.djn (aO.lt.le cc))
    have cC := ((((aO.fr O dn_).fr V dn_).ext ab).fr ac bx)
    obtain ⟨cE, bJ, cn⟩ := bs_ cj
    refine ck_ (ZiG ac.wf cA cB cC.sq bJ) ?_
    rintro c0 cJ ⟨_, cS, rfl, aw, ba, cW⟩
    obtain ⟨cO, cZ, cR, rfl⟩ := ba.form
    have cD := (((az.ext ab).fr ac (ah.djn az.lt)).fr aw dn_)
    obtain ⟨bD, co⟩ := Zb cn
    obtain ⟨c3, cK, bB, ch, bz, a6, bF⟩ := Ow.append (P := Tryz.prog) 24 aw.wf cD ba.sq (fun _ _ => rfl) (at_ := #[54, 54]) rfl rfl (by kernel_rfl) (by kernel_rfl) (by decide) (by have := bD; first | omega | (simp only [List.length_cons, List.length_nil] at this ⊢; omega) | (simp at this ⊢; omega))
    obtain ⟨aG, aQ, aI, rfl⟩ := a6.form
    refine ZaN (.slice aG aQ aI) (by kernel_rfl) (ch) ?_
    refine q_ (.slice aG aQ aI) (Za (bT _ _ (g_' ?_)))
    obtain ⟨bE, cp⟩ := Zb co
    refine w_' ((e + 1)) (Zn (by have := bE; omega)) (q_ (i_ (e + 1)) (Za ?_))
    have cd := (t_ (t_ (t_ V.n ab.n) ac.n) aw.n)
    obtain rfl := oi_ cp
    exact bQ ca _ _ lt_ ⟨(aj ++ cE), (e + 1), (.slice aG aQ aI), bB, a7, ha_, (fs_ O.wf (fs_ O.wf (fs_ O.wf ((fs_ O.wf (fr_ O.wf) V in_).extR ab) ac (ah.fresh V.n)) aw in_) bz (aN.fresh (Nat.le_refl _))), a6, (Inn.trans (aN.fresh (Nat.le_refl _)) cd bF)⟩
   have cq := Zi ag ai
   refine ZK (Zj (Zj (ZV ?_)))
   obtain rfl := oi_ cq
   obtain rfl := Zx a7
   exact b_ _ _ ⟨(.slice aU bd aV), ay, ha_, (fs_ O.wf (fr_ O.wf) V in_), az, (aN.fresh (Nat.le_refl _))⟩
  obtain ⟨aS, ax, a1, bA, bc, bP⟩ := hM
  obtain ⟨β, rfl⟩ := Zk a1
  clear a1
  obtain ⟨au, aA, av, rfl⟩ := bc.form
  refine b8 _ _ (sq_ fun bW => g_' (q_ (.slice au aA av) (q_ (.slice au aA av) (q_ (.nilIface) (Za (bW _ _ ?_))))))
  refine Zg ?_
  refine br_ [.slice au aA av, .nilIface] ?_
  have ce := (t_ (t_ (t_ Y.n ae.n) af.n) O.n)
  obtain rfl := oi_ cz
  exact ⟨(.slice au aA av), ax, (.nilIface), [], rfl, (fs_ ad (fs_ ad (fs_ ad (fs_ ad ((f0_ ad).extR Y) ae in_) af in_) O in_) bA in_), bc, Ev.nil, (bP.fresh ce), in_, Dj.nil_r⟩
 have cu := Zi aM bh
 refine l_' (.bool true) (Zb1 Tryz.prog .neq 38 (.tmp 18) (.const .nilIface) (.iface ak al) .nilIface) (Zd7 (by kernel_rfl)) (Za (a_ _ _ ?_))
 refine wb_ true (fun _ => ?_) fun h => by cases h
 refine sq_ fun bX => g_' (q_ (.iface ak al) (q_ (.slice none 0 0) (q_ (.iface ak al) (Za (bX _ _ ?_)))))
 refine Zg (Zh ?_)
 refine br_ [.slice none 0 0, .iface ak al] ?_
 obtain rfl := oi_ cu
 exact ⟨(.slice none 0 0), [], (.iface ak al), f27, rfl, ((f0_ ad).extR Y), (Ow.nil (by decide)), bb, in_, (bO.fresh Y.n), dn_⟩
end Go.Vd
