/- The walks of the functions (printed by a program of ours). -/
import Derived.Test.YtmcecdjpconioaaGreatDoorPsc2
import Derived.Test.YtmcecdjpconioaaGreatDoorPscISc
import Derived.Test.YtmcecdjpconioaaGreatDoorPscVeN
import Derived.Test.YtmcecdjpconioaaGreatDoorPscSoA
import Derived.Test.YtmcecdjpconioaaGreatDoorPscVeV
set_option linter.unusedVariables false
set_option linter.unusedSimpArgs false
set_option linter.unusedSectionVars false
/-! (KSc0) -/

set_option maxRecDepth 100000
set_option maxHeartbeats 4000000
set_option linter.unusedVariables false
namespace Go.Vd
open Go.Proofs
attribute [local irreducible] Zp Zq aWp
set_option linter.unusedSimpArgs false
theorem Zdk {α : Type} (P : Program) (a : α) : pr P (pure a : Sem α) = some a := rfl
theorem ZlK {P : Program} : pr P (program : Sem Program) = some P := rfl
theorem Zi0 {P : Program} {t : TypeId} {d : TypeDesc} (h : P.underlying t = some d) : pr P (underlying t) = some d := by
  simp only [underlying, Zaa]
  show ((pr P (program : Sem Program)).bind _) = _
  simp [show pr P (program : Sem Program) = some P from rfl, h]
  rfl
theorem ZhC {P : Program} (d : Nat) (t : TypeId) (k : IntKind) (h : P.underlying t = some (.int k)) (a c : Int) : pr P (Op.equalIn (d+1) t (.int k a) (.int k c)) = some (a == c) := by
  simp only [Op.equalIn, Zaa, Zi0 h]
  simp [Zdk]
theorem e_bool {P : Program} (d : Nat) (t : TypeId) (h : P.underlying t = some .bool) (a c : Bool) : pr P (Op.equalIn (d+1) t (.bool a) (.bool c)) = some (a == c) := by
  simp only [Op.equalIn, Zaa, Zi0 h]
  simp [Zdk]
theorem ZgI (a0 : Int) (e : Int) (D : Int) : pr Tryz.prog (part 3 #[i_ a0, i_ e, .int .u64 D] 0) = some (i_ a0) := by kernel_rfl
theorem Zgx (a c : Int) : pr Tryz.prog (Op.equalIn 9999 3 (i_ a) (i_ c)) = some (a == c) := ZhC 9998 3 .i64 Go.Proofs.Tryz.underlying3 a c
theorem ZgO (a0 : Int) (e : Int) (D : Int) : pr Tryz.prog (part 3 #[i_ a0, i_ e, .int .u64 D] 1) = some (i_ e) := by kernel_rfl
theorem Zgs (a c : Int) : pr Tryz.prog (Op.equalIn 9999 3 (i_ a) (i_ c)) = some (a == c) := ZhC 9998 3 .i64 Go.Proofs.Tryz.underlying3 a c
theorem ZgL (a0 : Int) (D : Int) (e : Int) : pr Tryz.prog (part 61 #[i_ a0, i_ D, .int .u64 e] 2) = some (.int .u64 e) := by kernel_rfl
theorem ZgK (a c : Int) : pr Tryz.prog (Op.equalIn 9999 61 (.int .u64 a) (.int .u64 c)) = some (a == c) := ZhC 9998 61 .u64 Go.Proofs.Tryz.underlying61 a c
theorem Zlx : Tryz.prog.stoodInHeld 63 = false := by kernel_rfl
theorem Zll (a0 : Int) (e : Int) (D : Int) (O : Int) (c1 : Int) (c2 : Int) : pr Tryz.prog (Op.equalIn Op.maxDepth 63 (.agg #[i_ a0, i_ e, .int .u64 D]) (.agg #[i_ O, i_ c1, .int .u64 c2])) = some (a0 == O && e == c1 && D == c2) := by
  rw [show Op.maxDepth = 9998 + 1 + 1 from rfl, Op.equalIn]
  rw [Zaa, Zi0 Go.Proofs.Tryz.underlying63]
  simp only [Option.bind_some, Zaa, ZlK, Zlx, Bool.false_eq_true, if_false]
  simp [Zaa, ZgI, ZgO, ZgL, Zgx, Zgs, ZgK]
  by_cases U : a0 = O
  · subst U
    by_cases V : e = c1
    · subst V
      by_cases Y : D = c2
      · subst Y
        simp [Zdk, Zaa, ZgI, ZgO, ZgL, Zgx, Zgs, ZgK]
      · simp [Zdk, Zaa, ZgI, ZgO, ZgL, Zgx, Zgs, ZgK, Y]
    · simp [Zdk, Zaa, ZgI, ZgO, ZgL, Zgx, Zgs, ZgK, V]
  · simp [Zdk, Zaa, ZgI, ZgO, ZgL, Zgx, Zgs, ZgK, U]
theorem Zmg (x y : Operand) (a0 : Int) (e : Int) (D : Int) (O : Int) (c1 : Int) (c2 : Int) : pr Tryz.prog (eqGuard .neq 63 x y (.agg #[i_ a0, i_ e, .int .u64 D]) (.agg #[i_ O, i_ c1, .int .u64 c2])) = some () := by kernel_rfl
theorem ZkB (x y : Operand) (a0 : Int) (e : Int) (D : Int) (O : Int) (c1 : Int) (c2 : Int) : Zbl Tryz.prog .neq 63 x y (.agg #[i_ a0, i_ e, .int .u64 D]) (.agg #[i_ O, i_ c1, .int .u64 c2]) = some (.bool (!decide (a0 = O /\ e = c1 /\ D = c2))) := by
  unfold Zbl
  rw [if_pos (show (plain (.agg #[i_ a0, i_ e, .int .u64 D]) && plain (.agg #[i_ O, i_ c1, .int .u64 c2])) = true from rfl), Zaa, Zmg]
  have : pr Tryz.prog (binOp .neq 63 (.agg #[i_ a0, i_ e, .int .u64 D]) (.agg #[i_ O, i_ c1, .int .u64 c2])) = some (.bool (!decide (a0 = O /\ e = c1 /\ D = c2))) := by
    simp only [binOp, Op.equal, Zaa, Zll]
    by_cases U : a0 = O <;> by_cases V : e = c1 <;> by_cases Y : D = c2 <;> simp [Zdk, U, V, Y]
  simp only [Option.bind_some, this]
  rfl
theorem ZmG (x y : Operand) (a0 : Int) (e : Int) (D : Int) (O : Int) (c1 : Int) (c2 : Int) : pr Tryz.prog (eqGuard .eql 63 x y (.agg #[i_ a0, i_ e, .int .u64 D]) (.agg #[i_ O, i_ c1, .int .u64 c2])) = some () := by kernel_rfl
theorem Zou (x y : Operand) (a0 : Int) (e : Int) (D : Int) (O : Int) (c1 : Int) (c2 : Int) : Zbl Tryz.prog .eql 63 x y (.agg #[i_ a0, i_ e, .int .u64 D]) (.agg #[i_ O, i_ c1, .int .u64 c2]) = some (.bool (decide (a0 = O /\ e = c1 /\ D = c2))) := by
  unfold Zbl
  rw [if_pos (show (plain (.agg #[i_ a0, i_ e, .int .u64 D]) && plain (.agg #[i_ O, i_ c1, .int .u64 c2])) = true from rfl), Zaa, ZmG]
  have : pr Tryz.prog (binOp .eql 63 (.agg #[i_ a0, i_ e, .int .u64 D]) (.agg #[i_ O, i_ c1, .int .u64 c2])) = some (.bool (decide (a0 = O /\ e = c1 /\ D = c2))) := by
    simp only [binOp, Op.equal, Zaa, Zll]
    by_cases U : a0 = O <;> by_cases V : e = c1 <;> by_cases Y : D = c2 <;> simp [Zdk, U, V, Y]
  simp only [Option.bind_some, this]
  rfl
theorem ZhG (a0 : Int) (e : Int) : pr Tryz.prog (part 79 #[i_ a0, i_ e] 0) = some (i_ a0) := by kernel_rfl
theorem ZhK (a c : Int) : pr Tryz.prog (Op.equalIn 9999 79 (i_ a) (i_ c)) = some (a == c) := ZhC 9998 79 .i64 Go.Proofs.Tryz.underlying79 a c
theorem Zh0 (a0 : Int) (e : Int) : pr Tryz.prog (part 3 #[i_ a0, i_ e] 1) = some (i_ e) := by kernel_rfl
theorem ZhZ (a c : Int) : pr Tryz.prog (Op.equalIn 9999 3 (i_ a) (i_ c)) = some (a == c) := ZhC 9998 3 .i64 Go.Proofs.Tryz.underlying3 a c
theorem Zlw : Tryz.prog.stoodInHeld 81 = false := by kernel_rfl
theorem Zlo (a0 : Int) (e : Int) (D : Int) (c1 : Int) : pr Tryz.prog (Op.equalIn Op.maxDepth 81 (.agg #[i_ a0, i_ e]) (.agg #[i_ D, i_ c1])) = some (a0 == D && e == c1) := by
  rw [show Op.maxDepth = 9998 + 1 + 1 from rfl, Op.equalIn]
  rw [Zaa, Zi0 Go.Proofs.Tryz.underlying81]
  simp only [Option.bind_some, Zaa, ZlK, Zlw, Bool.false_eq_true, if_false]
  simp [Zaa, ZhG, Zh0, ZhK, ZhZ]
  by_cases O : a0 = D
  · subst O
    by_cases U : e = c1
    · subst U
      simp [Zdk, Zaa, ZhG, Zh0, ZhK, ZhZ]
    · simp [Zdk, Zaa, ZhG, Zh0, ZhK, ZhZ, U]
  · simp [Zdk, Zaa, ZhG, Zh0, ZhK, ZhZ, O]
theorem ZmF (x y : Operand) (a0 : Int) (e : Int) (D : Int) (c1 : Int) : pr Tryz.prog (eqGuard .neq 81 x y (.agg #[i_ a0, i_ e]) (.agg #[i_ D, i_ c1])) = some () := by kernel_rfl
theorem ZkJ (x y : Operand) (a0 : Int) (e : Int) (D : Int) (c1 : Int) : Zbl Tryz.prog .neq 81 x y (.agg #[i_ a0, i_ e]) (.agg #[i_ D, i_ c1]) = some (.bool (!decide (a0 = D /\ e = c1))) := by
  unfold Zbl
  rw [if_pos (show (plain (.agg #[i_ a0, i_ e]) && plain (.agg #[i_ D, i_ c1])) = true from rfl), Zaa, ZmF]
  have : pr Tryz.prog (binOp .neq 81 (.agg #[i_ a0, i_ e]) (.agg #[i_ D, i_ c1])) = some (.bool (!decide (a0 = D /\ e = c1))) := by
    simp only [binOp, Op.equal, Zaa, Zlo]
    by_cases O : a0 = D <;> by_cases U : e = c1 <;> simp [Zdk, O, U]
  simp only [Option.bind_some, this]
  rfl
theorem ZmH (x y : Operand) (a0 : Int) (e : Int) (D : Int) (c1 : Int) : pr Tryz.prog (eqGuard .eql 81 x y (.agg #[i_ a0, i_ e]) (.agg #[i_ D, i_ c1])) = some () := by kernel_rfl
theorem Zot (x y : Operand) (a0 : Int) (e : Int) (D : Int) (c1 : Int) : Zbl Tryz.prog .eql 81 x y (.agg #[i_ a0, i_ e]) (.agg #[i_ D, i_ c1]) = some (.bool (decide (a0 = D /\ e = c1))) := by
  unfold Zbl
  rw [if_pos (show (plain (.agg #[i_ a0, i_ e]) && plain (.agg #[i_ D, i_ c1])) = true from rfl), Zaa, ZmH]
  have : pr Tryz.prog (binOp .eql 81 (.agg #[i_ a0, i_ e]) (.agg #[i_ D, i_ c1])) = some (.bool (decide (a0 = D /\ e = c1))) := by
    simp only [binOp, Op.equal, Zaa, Zlo]
    by_cases O : a0 = D <;> by_cases U : e = c1 <;> simp [Zdk, O, U]
  simp only [Option.bind_some, this]
  rfl
theorem Zgl {H : AH} {r : List (Int × Int × Int)}
    (Y : WF H) (ad : Zc3 = some r) :
    ACalls Tryz.prog 15 #[] H fun v H' => ∃ (af : Value) (aa : Fp), v = .agg #[i_ 4, af] /\ FrS [] H H' /\ Ow Zr 3 H' af r aa /\ Inn [] H aa := by
 refine ab_ Tryz.func15 ?_
 unfold Zc3 at ad
 refine sq_ fun al => g_' ?_
 refine rk_ Y [i_ 0, .slice none 0 0] fun ah ar V aj ae => ?_
 refine Za (al _ _ (sq_ fun ak => g_' (qs_ 4 ?_)))
 refine Zbo (enc := Zr) (sz := 3) V.wf [(0, 1, 4), (1, 2, 1), (0, 2, 9), (2, 3, 2)] 4 (by decide) (fun _ _ => rfl) (fun _ _ => rfl) rfl (by kernel_rfl) fun au f15 aq U ab ac => ?_
 obtain ⟨e, O, D, rfl⟩ := ac.form
 refine qs_ 1 ?_
 have ao := (ae.ext U)
 obtain ⟨ag, am, Z, an⟩ := ra_ 24 0 U.wf ao [i_ 4, .slice e O D] [i_ 4, .slice e O D]
 refine ek_ am (Za (ak _ _ ?_))
 refine Zh ?_
 refine Zac (vs := [.agg #[i_ 4, .slice e O D]]) (ZQ (Eq.trans (b := aL_ 24 (pt_ ah 0) ag) (by kernel_rfl) (an.l_)) (rfl)) ?_
 have ai := (ab.djn ae.ltF)
 have ap := (ac.fr Z (Dj.symm ai))
 obtain rfl := oi_ ad
 exact ⟨(.slice e O D), f15, rfl, (fs_ Y (((f0_ Y).extR V).extR U) Z (aj.fresh (Nat.le_refl _))), ap, (ab.fresh V.n)⟩
theorem ZfV {H : AH} {x : Int} {O : Int} {r : Bool}
    (Y : WF H) (D : Zdf x O = some r) :
    ACalls Tryz.prog 88 #[i_ x, i_ O] H fun v H' => v = .bool r /\ H = H' := by
 refine ab_ Tryz.func88 ?_
 unfold Zdf at D
 refine sn_ (sq_ fun k2 => g_' (qs_ 1 ?_))
 refine sb_ (x ≥ 0) (fun e => ?_) fun e => ?_
 ·have U := Ze e D
  refine qs_ 6 (Za (k2 _ _ ?_))
  refine Zh ?_
  refine br_ [.bool (decide (x < O))] ?_
  obtain rfl := oi_ U
  exact ⟨rfl, rfl⟩
 have V := Zi e D
 refine qs_ 6 (Za (k2 _ _ ?_))
 refine Zh ?_
 refine br_ [.bool false] ?_
 obtain rfl := oi_ V
 exact ⟨rfl, rfl⟩
theorem Zkf {H : AH} {U : Int} {V : Int} {e : Int} {aj : Int} {r : Er}
    (O : WF H) (ag : Zd8 U V e aj = some r) :
    ACalls Tryz.prog 75 #[.agg #[i_ U, i_ V, i_ e], i_ aj] H fun v H' => ∃ (v3 : Value) (ae : Fp), v = v3 /\ FrS [] H H' /\ Ev 48 82 H' v3 r ae /\ Inn [] H ae := by
 refine ab_ Tryz.func75 ?_
 unfold Zd8 at ag
 refine sq_ fun ay => g_' ?_
 refine rl_ O [i_ U, i_ V, i_ e] fun aq ap D aH Z => ?_
 refine qs_ 1 (Za (ay _ _ (sq_ fun aw => Zl (sq_ fun ax => ?_))))
 obtain ⟨ak, ar, al⟩ := bs_ ag
 refine ZC (fun α ad => Has α [(2, pt_ aq 0), (5, .bool ak)] /\ ap = ad) (fun _ ah => ?_) (fun α ad hM => ?_)
 ·refine g_' (qs_ 1 (lr_ 3 0 (i_ U) Z (qs_ 1 ?_)))
  obtain ⟨aG, au, am⟩ := bs_ ar
  refine ck_ (ZfV D.wf au) ?_
  rintro _ _ ⟨rfl, rfl⟩
  by_cases Y : aG = true
  ·have az := Ze Y am
   rw [Y]
   refine qs_ 3 (lr_ 3 1 (i_ V) Z (qs_ 1 ?_))
   obtain ⟨aI, av, aA⟩ := bs_ az
   refine ck_ (ZfV D.wf av) ?_
   rintro _ _ ⟨rfl, rfl⟩
   refine qs_ 3 (Za ?_)
   obtain rfl := oi_ aA
   exact ah _ _ ⟨ha_, rfl⟩
  have aB := Zi Y am
  rw [nb Y]
  refine qs_ 9 (Za ?_)
  obtain rfl := oi_ aB
  exact ah _ _ ⟨ha_, rfl⟩
 obtain ⟨af, rfl⟩ := hM
 obtain ⟨β, rfl⟩ := Zk af
 clear af
 refine ax _ _ ?_
 refine wb_ (ak) (fun aa => ?_) fun aa => ?_
 ·have aC := Ze aa al
  refine sn_ ?_
  refine Zh (ZD (Zf ?_))
  refine br_ [.iface 48 (i_ 7)] ?_
  obtain rfl := oi_ aC
  exact ⟨(.iface 48 (i_ 7)), [], rfl, ((f0_ O).extR D), Ev.no, in_⟩
 have an := ZM aa al
 refine sq_ fun ai => g_' (qs_ 1 (lr_ 3 2 (i_ e) Z ?_))
 refine sb_ (e < 0) (fun ab => ?_) fun ab => ?_
 ·have aD := Ze ab an
  refine qs_ 6 (Za (ai _ _ ?_))
  refine wb_ true (fun _ => ?_) fun h => by cases h
  refine sn_ ?_
  refine Zh (ZD (Zf ?_))
  refine br_ [.iface 48 (i_ 8)] ?_
  obtain rfl := oi_ aD
  exact ⟨(.iface 48 (i_ 8)), [], rfl, ((f0_ O).extR D), Ev.no, in_⟩
 have ao := Zi ab an
 refine qs_ 2 (lr_ 3 2 (i_ e) Z (qs_ 3 (Za (ai _ _ ?_))))
 refine wc_ (e > 2147483647) (fun ac => ?_) fun ac => ?_
 ·have aE := Ze ac ao
  refine sn_ ?_
  refine Zh (ZD (Zf ?_))
  refine br_ [.iface 48 (i_ 8)] ?_
  obtain rfl := oi_ aE
  exact ⟨(.iface 48 (i_ 8)), [], rfl, ((f0_ O).extR D), Ev.no, in_⟩
 have aF := Zi ac ao
 refine Zg (aw _ _ (sn_ ?_))
 refine Zh ?_
 refine br_ [.nilIface] ?_
 obtain rfl := oi_ aF
 exact ⟨(.nilIface), [], rfl, ((f0_ O).extR D), Ev.nil, in_⟩
theorem Zh1 {H : AH} {aa : Value} {ac : Fp} {O : Int} {at_ : Int} {Z : Er} {r : Er}
    (U : WF H) (ad : Ev 48 82 H aa Z ac) (D : Zdt O at_ Z = some r) :
    ACalls Tryz.prog 76 #[i_ O, i_ at_, aa] H fun v H' => ∃ (v3 : Value) (ab : Fp), v = v3 /\ FrS [] H H' /\ Ev 48 82 H' v3 r ab /\ Inn ac H ab := by
 refine ab_ Tryz.func76 ?_
 unfold Zdt at D
 refine sn_ (sq_ fun am => sq_ fun ae => g_' (qs_ 1 ?_))
 rcases (ad).cases with ⟨e, rfl⟩ | ⟨e, af, ag, rfl⟩
 ·have an := Ze e D
  refine qs_ 1 (Za (ae _ _ ?_))
  refine wb_ true (fun _ => ?_) fun h => by cases h
  refine sn_ ?_
  refine Zh (Zf ?_)
  refine br_ [.nilIface] ?_
  obtain rfl := oi_ an
  exact ⟨(.nilIface), [], rfl, (f0_ U), Ev.nil, in_⟩
 have ao := Zi e D
 refine l_' (.bool false) (Zbl Tryz.prog .eql 39 (.tmp 7) (.const .nilIface) (.iface af ag) .nilIface) (Zfd (by kernel_rfl)) (Za (ae _ _ ?_))
 refine wb_ false (fun h => by cases h) fun _ => ?_
 refine Zg (am _ _ (sq_ fun al => g_' (qs_ 5 ?_)))
 refine rl_ U [i_ O, i_ at_, .iface af ag] fun V ar Y ai ap => ?_
 have aq := (ad.ext Y)
 obtain ⟨ah, aj, ak⟩ := Ev.at ap aq ai
 refine qs_ 2 (Za (al _ _ ?_))
 refine Zh ?_
 refine br_ [.iface 82 (pt_ V 0)] ?_
 obtain rfl := oi_ ao
 exact ⟨(.iface 82 (pt_ V 0)), ah, rfl, ((f0_ U).extR Y), aj, (Inn.trans ir_ (Nat.le_refl _) ak)⟩
theorem ZiI {H : AH} {aa : Value} {aS : Fp} {U : Int} {Arcs : List (Int × Int × Int)} {r : Er}
    (V : WF H) (ak : Sq Zr 3 H aa Arcs aS) (az : Zdx U Arcs = some r) :
    ACalls Tryz.prog 58 #[.agg #[i_ U, aa]] H fun v H' => ∃ (v3 : Value) (au : Fp), v = v3 /\ FrS [] H H' /\ Ev 48 82 H' v3 r au /\ Inn [] H au := by
 refine ab_ Tryz.func58 ?_
 unfold Zdx at az
 refine sq_ fun bf => g_' ?_
 refine ZaK V [i_ U, aa] (Zu (rfl) (Zu (ak.one1) (Z1))) (by kernel_rfl) fun ar af D bR ab => ?_
 refine qs_ 1 (Za (bf _ _ (sq_ fun a7 => sq_ fun a8 => ?_)))
 obtain ⟨aF, aB, aH⟩ := bs_ az
 refine ZC (fun α ao => Has α [(1, pt_ ar 0), (19, .bool aF)] /\ af = ao) (fun _ an => ?_) (fun α ao hM => ?_)
 ·refine g_' (qs_ 1 (lr_ 3 0 (i_ U) ab ?_))
  refine sb_ (U < 0) (fun ag => ?_) fun ag => ?_
  ·have br := Ze ag aB
   refine qs_ 11 (Za ?_)
   obtain rfl := oi_ br
   exact an _ _ ⟨ha_, rfl⟩
  have aI := Zi ag aB
  refine qs_ 2 (lr_ 3 0 (i_ U) ab ?_)
  refine sb_ (U > 65536) (fun ah => ?_) fun ah => ?_
  ·have bs := Ze ah aI
   refine qs_ 7 (Za ?_)
   obtain rfl := oi_ bs
   exact an _ _ ⟨ha_, rfl⟩
  have bt := Zi ah aI
  refine qs_ 3 (lr_ 22 1 (aa) ab ?_)
  have bG := (ak.ext D)
  refine bG.ln_ 22 (qs_ 2 (Za ?_))
  obtain rfl := oi_ bt
  exact an _ _ ⟨ha_, rfl⟩
 obtain ⟨aw, rfl⟩ := hM
 obtain ⟨β, rfl⟩ := Zk aw
 clear aw
 refine a8 _ _ ?_
 refine wb_ (aF) (fun ai => ?_) fun ai => ?_
 ·have bu := Ze ai aH
  refine sn_ ?_
  refine Zh (Zf ?_)
  refine br_ [.iface 48 (i_ 9)] ?_
  obtain rfl := oi_ bu
  exact ⟨(.iface 48 (i_ 9)), [], rfl, ((f0_ V).extR D), Ev.no, in_⟩
 have bv := ZM ai aH
 refine Zg (a7 _ _ (sq_ fun a_ => sq_ fun ba => g_' (qs_ 1 (lr_ 22 1 (aa) ab ?_))))
 have aL := (ak.ext D)
 refine aL.ln_ 22 (qs_ 1 (Za (ba _ _ ?_)))
 obtain ⟨z39, aX, aJ⟩ := bs_ bv
 refine ZC (fun α ap => ∃ aG, z39 = Sum.inr aG /\ Has α [] /\ FrS [] af ap) (fun _ bb => ?_) (fun α ap hM => ?_)
 ·refine Zl ?_
  obtain ⟨aE, aV⟩ := Zt.1 aX
  refine ZI (fun n α aq => ∃ (e : Int), ZO (fun zz_ => Zc0 U Arcs zz_) n e = some z39 /\ Has α [(1, pt_ ar 0), (22, aa), (23, i_ (Arcs.length : Int)), (24, i_ e)] /\ FrS [] af aq) aE ⟨0, aV, ha_, (fr_ D.wf)⟩ ?_
  rintro aE α aq ⟨e, aU, ay, O⟩ bO bc
  obtain ⟨bn, bJ, rfl, ad, am⟩ := Zx aU
  obtain ⟨β, rfl⟩ := Zk ay
  clear ay
  replace ad : Zc0 U Arcs e = some bJ := ad
  unfold Zc0 at ad
  refine sn_ (sq_ fun bd => ?_)
  refine wc_ (e < (Arcs.length : Int)) (fun ac => ?_) fun ac => ?_
  ·have bw := Ze ac ad
   refine Zg (bd _ _ (sq_ fun be => Zl (sq_ fun bg => g_' (qs_ 1 ?_))))
   obtain ⟨av, bx⟩ := Zb bw
   have aM := (aL.fr O dn_)
   refine aM.ix_ 22 av ac (le_ 106 0 (.agg #[i_ ((gt Arcs e).1), i_ ((gt Arcs e).2.1), i_ ((gt Arcs e).2.2)]) aM av ac ?_)
   refine rk_ O.wf [i_ 0, i_ 0, i_ 0] fun bP bL Y al bz => ?_
   refine qs_ 1 ?_
   obtain ⟨bM, bo, Z, bA⟩ := ra_ 106 0 Y.wf bz [i_ ((gt Arcs e).1), i_ ((gt Arcs e).2.1), i_ ((gt Arcs e).2.2)] [i_ ((gt Arcs e).1), i_ ((gt Arcs e).2.1), i_ ((gt Arcs e).2.2)]
   refine ek_ bo (Za (bg _ _ (sq_ fun bh => g_' (lr_ 106 0 (.agg #[i_ ((gt Arcs e).1), i_ ((gt Arcs e).2.1), i_ ((gt Arcs e).2.2)]) bA (qs_ 1 ?_)))))
   have aO := (al.djn (ab.ltF.le O.n))
   have bH := (((ab.frS O dn_).ext Y).frS Z aO)
   refine lr_ 3 0 (i_ U) bH ?_
   obtain ⟨bU, aY, aK⟩ := bs_ bx
   refine ck_ (Zkf Z.wf aY) ?_
   rintro bT bN ⟨_, bQ, rfl, ae, aD, a6⟩
   refine qs_ 1 (Za (bh _ _ (sq_ fun aC => g_' (qs_ 1 ?_))))
   rcases (aD).cases with ⟨aj, rfl⟩ | ⟨aj, bF, bI, rfl⟩
   ·have bB := Ze aj aK
    refine qs_ 1 (Za (aC _ _ ?_))
    refine wb_ false (fun h => by cases h) fun _ => ?_
    refine Zg (be _ _ (g_' ?_))
    obtain ⟨aT, bC⟩ := Zb bB
    refine w_' ((e + 1)) (Zo (by have := aT; omega)) (qs_ 1 (Za ?_))
    obtain rfl := oi_ bC
    exact bc bn _ _ lt_ ⟨(e + 1), am, ha_, (fs_ D.wf (fs_ D.wf ((fs_ D.wf (fr_ D.wf) O in_).extR Y) Z (al.fresh O.n)) ae in_)⟩
   have bD := Zi aj aK
   refine l_' (.bool true) (Zbl Tryz.prog .neq 39 (.tmp 33) (.const .nilIface) (.iface bF bI) .nilIface) (ZcT (by kernel_rfl)) (Za (aC _ _ ?_))
   refine wb_ true (fun _ => ?_) fun h => by cases h
   refine sq_ fun bi => g_' (qs_ 2 ?_)
   obtain ⟨bV, aZ, bE⟩ := bs_ bD
   refine ck_ (Zh1 ae.wf aD aZ) ?_
   rintro aN bK ⟨_, aR, rfl, aP, bj, a2⟩
   refine qs_ 1 (Za (bi _ _ ?_))
   refine Zh (ZD (Zf (Zf (ZD (Zf (Zf ?_))))))
   obtain ⟨bS, aA, a1⟩ := map_some bE
   subst a1
   obtain rfl := Zv am
   have aW := elim_inl aJ
   rw [aW] at aA
   refine br_ [aN] ?_
   have bk := (t_ D.n O.n)
   have bl := (t_ (t_ (t_ D.n O.n) Y.n) Z.n)
   have bm := (t_ (t_ (t_ (t_ D.n O.n) Y.n) Z.n) ae.n)
   obtain rfl := oi_ aA
   exact ⟨(aN), aR, rfl, (fs_ V (fs_ V (fs_ V ((fs_ V ((f0_ V).extR D) O in_).extR Y) Z (al.fresh bk)) ae in_) aP in_), bj, (Inn.trans (a6.fresh bl) bm a2)⟩
  have bp := Zi ac ad
  refine ZH (Zj (Zj (ZT ?_)))
  obtain rfl := oi_ bp
  obtain rfl := Zv am
  exact bb _ _ ⟨_, rfl, trivial, (fs_ D.wf (fr_ D.wf) O in_)⟩
 obtain ⟨aG, rfl, ax, aQ⟩ := hM
 have bq := elim_inr aJ
 obtain ⟨β, rfl⟩ := Zk ax
 clear ax
 refine a_ _ _ (sn_ ?_)
 refine Zh ?_
 refine br_ [.nilIface] ?_
 obtain rfl := oi_ bq
 exact ⟨(.nilIface), [], rfl, (fs_ V ((f0_ V).extR D) aQ in_), Ev.nil, in_⟩
theorem Zg9 {H : AH} {x : Int} {r : Bool}
    (D : WF H) (e : Zd6 x = some r) :
    ACalls Tryz.prog 99 #[i_ x] H fun v H' => v = .bool r /\ H = H' := by
 refine ab_ Tryz.func99 ?_
 unfold Zd6 at e
 refine sn_ (sn_ ?_)
 refine Zh ?_
 refine br_ [.bool (!decide (x = x))] ?_
 obtain rfl := oi_ e
 exact ⟨rfl, rfl⟩
theorem ZeO {H : AH} {x : Int} {y : Int} {r : Int}
    (ae : WF H) (Y : ZcB x y = some r) :
    ACalls Tryz.prog 80 #[i_ x, i_ y] H fun v H' => v = i_ r /\ H = H' := by
 refine ab_ Tryz.func80 ?_
 unfold ZcB at Y
 refine sn_ (sq_ fun k2 => g_' (qs_ 1 ?_))
 obtain ⟨ax, ah, aw⟩ := bs_ Y
 refine ck_ (Zg9 ae ah) ?_
 rintro _ _ ⟨rfl, rfl⟩
 refine qs_ 1 (Za (k2 _ _ (sq_ fun an => g_' (qs_ 1 ?_))))
 obtain ⟨af, ag, Z⟩ := bs_ aw
 refine ck_ (Zg9 ae ag) ?_
 rintro _ _ ⟨rfl, rfl⟩
 refine qs_ 1 (Za (an _ _ (sq_ fun ai => sn_ ?_)))
 refine wb_ (ax) (fun e => ?_) fun e => ?_
 ·have aa := Ze e Z
  refine sq_ fun aj => sn_ ?_
  refine wb_ (af) (fun D => ?_) fun D => ?_
  ·have ao := Ze D aa
   refine sn_ ?_
   refine Zh (Zf (Zf ?_))
   refine br_ [i_ 0] ?_
   obtain rfl := oi_ ao
   exact ⟨rfl, rfl⟩
  have ap := ZM D aa
  refine Zg (aj _ _ (sn_ ?_))
  refine Zh (Zf ?_)
  refine br_ [i_ (-1)] ?_
  obtain rfl := oi_ ap
  exact ⟨rfl, rfl⟩
 have ab := ZM e Z
 refine Zg (ai _ _ (sq_ fun ak => sn_ ?_))
 refine wb_ (af) (fun O => ?_) fun O => ?_
 ·have aq := Ze O ab
  refine sn_ ?_
  refine Zh (Zf ?_)
  refine br_ [i_ 1] ?_
  obtain rfl := oi_ aq
  exact ⟨rfl, rfl⟩
 have ac := ZM O ab
 refine Zg (ak _ _ (sq_ fun al => sn_ ?_))
 refine wc_ (x < y) (fun U => ?_) fun U => ?_
 ·have ar := Ze U ac
  refine sn_ ?_
  refine Zh (Zf ?_)
  refine br_ [i_ (-1)] ?_
  obtain rfl := oi_ ar
  exact ⟨rfl, rfl⟩
 have ad := Zi U ac
 refine Zg (al _ _ (sq_ fun am => sn_ ?_))
 refine wc_ (x > y) (fun V => ?_) fun V => ?_
 ·have au := Ze V ad
  refine sn_ ?_
  refine Zh (Zf ?_)
  refine br_ [i_ 1] ?_
  obtain rfl := oi_ au
  exact ⟨rfl, rfl⟩
 have av := Zi V ad
 refine Zg (am _ _ (sn_ ?_))
 refine Zh ?_
 refine br_ [i_ 0] ?_
 obtain rfl := oi_ av
 exact ⟨rfl, rfl⟩
theorem ZmJ {H : AH} {Z : Value} {an : Fp} {D : List (Int)} {r : Int}
    (aM : WF H) (Y : Sq (Zai .i64) 1 H Z D an) (ag : Zfa D = some r) :
    ACalls Tryz.prog 79 #[Z] H fun v H' => v = i_ r /\ H = H' := by
 refine ab_ Tryz.func79 ?_
 unfold Zfa at ag
 refine sn_ (sn_ (sq_ fun k3 => sq_ fun aB => g_' (qs_ 1 (Y.ln_ 26 (qs_ 1 (Za (aB _ _ ?_)))))))
 obtain ⟨am, au, al⟩ := bs_ ag
 refine ZC (fun α ac => ∃ aj, am = Sum.inr aj /\ Has α [(3, i_ 0)] /\ H = ac) (fun _ aw => ?_) (fun α ac hM => ?_)
 ·refine Zl ?_
  obtain ⟨ai, aq⟩ := Zt.1 au
  refine ZI (fun n α ab => ∃ (e : Int), ZO (fun zz_ => ZcR D zz_) n e = some am /\ Has α [(3, i_ 0), (6, Z), (7, i_ (D.length : Int)), (8, i_ e)] /\ H = ab) ai ⟨0, aq, ha_, rfl⟩ ?_
  rintro ai α ab ⟨e, ap, af, rfl⟩ aK ax
  obtain ⟨aC, aJ, rfl, U, aa⟩ := Zx ap
  obtain ⟨β, rfl⟩ := Zk af
  clear af
  replace U : ZcR D e = some aJ := U
  unfold ZcR at U
  refine sn_ (sq_ fun ay => ?_)
  refine wc_ (e < (D.length : Int)) (fun O => ?_) fun O => ?_
  ·have aD := Ze O U
   refine Zg (ay _ _ (sq_ fun az => Zl (sq_ fun aA => g_' ?_)))
   obtain ⟨ad, ak⟩ := Zb aD
   refine Y.ix_ 26 ad O (le_ 3 0 (i_ (gt D e)) Y ad O (qs_ 1 (Za (aA _ _ (sn_ ?_)))))
   refine Zdi ((gt D e) = 0) (by kernel_rfl) rfl (fun V => ?_) (fun V => ?_)
   ·have aE := Zi V ak
    refine sn_ ?_
    refine Zh (ZD (Zf (Zf (ZD (Zf (Zf ?_))))))
    obtain ⟨aL, ah, av⟩ := map_some aE
    subst av
    obtain rfl := Zv aa
    have ar := elim_inl al
    rw [ar] at ah
    refine br_ [i_ (gt D e)] ?_
    obtain rfl := oi_ ah
    exact ⟨rfl, rfl⟩
   have aF := Ze V ak
   refine Zg (az _ _ (g_' ?_))
   obtain ⟨ao, aG⟩ := Zb aF
   refine w_' ((e + 1)) (Zo (by have := ao; omega)) (qs_ 1 (Za ?_))
   obtain rfl := oi_ aG
   exact ax aC _ _ lt_ ⟨(e + 1), aa, ha_, rfl⟩
  have aH := Zi O U
  refine ZH (Zj (Zj (ZT ?_)))
  obtain rfl := oi_ aH
  obtain rfl := Zv aa
  exact aw _ _ ⟨_, rfl, ha_, rfl⟩
 obtain ⟨aj, rfl, ae, rfl⟩ := hM
 have aI := elim_inr al
 obtain ⟨β, rfl⟩ := Zk ae
 clear ae
 refine k3 _ _ (sn_ ?_)
 refine Zh ?_
 refine br_ [i_ 0] ?_
 obtain rfl := oi_ aI
 exact ⟨rfl, rfl⟩
theorem Zia {H : AH} {Y : Int} {aa : Int} {ac : Int} {Z : Int} {ab : Int} {ad : Int} {r : Int}
    (ai : WF H) (ah : Zce Y aa ac Z ab ad = some r) :
    ACalls Tryz.prog 60 #[.agg #[i_ Y, i_ aa, i_ ac], .agg #[i_ Z, i_ ab, i_ ad]] H fun v H' => v = i_ r /\ FrS [] H H' := by
 refine ab_ Tryz.func60 ?_
 unfold Zce at ah
 refine sq_ fun k1 => g_' ?_
 refine rl_ ai [i_ Y, i_ aa, i_ ac] fun b2 az af aF au => ?_
 refine rl_ af.wf [i_ Z, i_ ab, i_ ad] fun V e D aE O => ?_
 refine qs_ 1 (Za (k1 _ _ (sq_ fun an => ?_)))
 refine ZR [0, 1, 2, 3, 5, 6, 7, 8, 10, 11, 12, 13, 4, 9, 14, 15, 16, 17] (by kernel_rfl) ?_
 refine es_ 1 ?_
 have U := (au.ext D)
 refine mr_ 3 0 (i_ Y) U (es_ 1 (mr_ 3 0 (i_ Z) O (es_ 1 ?_)))
 refine Zcz (i_ aa) (x := aL_ 3 (pt_ b2 1) e) (by kernel_rfl) (U.l_) ?_
 refine es_ 1 ?_
 refine Zcz (i_ ab) (x := aL_ 3 (pt_ V 1) e) (by kernel_rfl) (O.l_) ?_
 refine es_ 1 ?_
 refine Zcz (i_ ac) (x := aL_ 3 (pt_ b2 2) e) (by kernel_rfl) (U.l_) ?_
 refine es_ 1 ?_
 refine Zcz (i_ ad) (x := aL_ 3 (pt_ V 2) e) (by kernel_rfl) (O.l_) ?_
 obtain ⟨av, aj, ao⟩ := bs_ ah
 refine dk_ (ZeO D.wf aj) ?_
 rintro _ _ ⟨rfl, rfl⟩
 refine ⟨ZaP (y := aL_ 3 (pt_ V 2) e) (by kernel_rfl) (O.l_) (ZaP (y := aL_ 3 (pt_ b2 2) e) (by kernel_rfl) (U.l_) (ZaP (y := aL_ 3 (pt_ V 1) e) (by kernel_rfl) (O.l_) (ZaP (y := aL_ 3 (pt_ b2 1) e) (by kernel_rfl) (U.l_) (ZL)))), ?_⟩
 obtain ⟨aw, ak, ap⟩ := bs_ ao
 refine dk_ (ZeO D.wf ak) ?_
 rintro _ _ ⟨rfl, rfl⟩
 refine ⟨ZaP (y := aL_ 3 (pt_ V 2) e) (by kernel_rfl) (O.l_) (ZaP (y := aL_ 3 (pt_ b2 2) e) (by kernel_rfl) (U.l_) (Zap (by kernel_rfl) (Zap (by kernel_rfl) (ZL)))), ?_⟩
 obtain ⟨ax, al, aq⟩ := bs_ ap
 refine dk_ (ZeO D.wf al) ?_
 rintro _ _ ⟨rfl, rfl⟩
 refine ⟨Zap (by kernel_rfl) (Zap (by kernel_rfl) (Zap (by kernel_rfl) (Zap (by kernel_rfl) (ZL)))), ?_⟩
 refine Zhx (enc := (Zai .i64)) (sz := 1) D.wf [av, aw, ax] 3 (by decide) (fun _ _ => rfl) (fun _ _ => rfl) rfl (by kernel_rfl) fun aI aD aA ae aG ag => ?_
 obtain ⟨aB, aH, aC, rfl⟩ := ag.form
 obtain ⟨ay, am, ar⟩ := bs_ aq
 refine dk_ (ZmJ ae.wf ag.sq am) ?_
 rintro _ _ ⟨rfl, rfl⟩
 refine ⟨Zap (by kernel_rfl) (Zap (by kernel_rfl) (Zap (by kernel_rfl) (Zap (by kernel_rfl) (ZL)))), ?_⟩
 refine es_ 1 ?_
 refine ZK ?_
 refine an _ _ ?_
 refine Zh ?_
 refine br_ [i_ ay] ?_
 obtain rfl := oi_ ar
 exact ⟨rfl, ((((f0_ ai).extR af).extR D).extR ae)⟩
theorem Zgb {H : AH} {e : Int} {O : Int} {V : Int} {D : Int} {U : Int} {Y : Int} {r : Bool}
    (ad : WF H) (ac : Zc6 e O V D U Y = some r) :
    ACalls Tryz.prog 62 #[.agg #[i_ e, i_ O, i_ V], .agg #[i_ D, i_ U, i_ Y]] H fun v H' => v = .bool r /\ FrS [] H H' := by
 refine ab_ Tryz.func62 ?_
 unfold Zc6 at ac
 refine sq_ fun k1 => g_' ?_
 refine rl_ ad [i_ e, i_ O, i_ V] fun b2 ak aa ao aj => ?_
 refine rl_ aa.wf [i_ D, i_ U, i_ Y] fun am al Z an af => ?_
 refine qs_ 1 (Za (k1 _ _ (sq_ fun ae => g_' (qs_ 1 ?_))))
 have ag := (aj.ext Z)
 refine lr_ 3 0 (i_ e) ag (qs_ 1 (lr_ 3 0 (i_ D) af ?_))
 refine sb_ (e = D) (fun ab => ?_) fun ab => ?_
 ·have ah := Ze ab ac
  refine qs_ 2 (lr_ 3 1 (i_ O) ag (qs_ 1 (lr_ 3 1 (i_ U) af (qs_ 3 (Za (ae _ _ ?_))))))
  refine Zh ?_
  refine br_ [.bool (decide (O = U))] ?_
  obtain rfl := oi_ ah
  exact ⟨rfl, (((f0_ ad).extR aa).extR Z)⟩
 have ai := Zi ab ac
 refine qs_ 8 (Za (ae _ _ ?_))
 refine Zh ?_
 refine br_ [.bool false] ?_
 obtain rfl := oi_ ai
 exact ⟨rfl, (((f0_ ad).extR aa).extR Z)⟩
theorem ZfZ {H : AH} {V : Value} {Y : Fp} {s : List (Int × Int × Int)} {r : List (Int × Int × Int) × List (Int × Int × Int)}
    (O : WF H) (ag : Ow Zr 3 H V s Y) (aA : ZbY s = some r) :
    ACalls Tryz.prog 61 #[V, .func (.func 62) #[] #[]] H fun v H' => ∃ (bd : Value), v = bd /\ FrS Y H H' /\ Ow Zr 3 H' bd r.1 Y /\ Ow Zr 3 H' V r.2 Y := by
 refine ab_ Tryz.func61 ?_
 unfold ZbY at aA
 refine sn_ (sq_ fun bS => sq_ fun bU => g_' (qs_ 1 (ag.sq.ln_ 22 (qs_ 1 (Za (bU _ _ ?_))))))
 refine wc_ ((s.length : Int) < 2) (fun ax => ?_) fun ax => ?_
 ·have b_ := Ze ax aA
  refine sn_ ?_
  refine Zh (Zf ?_)
  refine br_ [V] ?_
  obtain rfl := oi_ b_
  exact ⟨(V), rfl, (fr_ O), ag, ag⟩
 have cf := Zi ax aA
 refine Zg (bS _ _ (sq_ fun bH => sn_ ?_))
 obtain ⟨bh, bB, bb⟩ := bs_ cf
 refine ZC (fun α aD => ∃ a_, bh = Sum.inr a_ /\ Has α [(0, V)] /\ FrS [] H aD) (fun _ bK => ?_) (fun α aD hM => ?_)
 ·refine Zl ?_
  obtain ⟨a2, bw⟩ := Zt.1 bB
  refine ZI (fun n α aE => ∃ (k3 : Int), ZO (fun zz_ => Za6 s zz_) n k3 = some bh /\ Has α [(0, V), (1, .func (.func 62) #[] #[]), (5, i_ k3)] /\ FrS [] H aE) a2 ⟨1, bw, ha_, (f0_ O)⟩ ?_
  rintro a2 α aE ⟨k3, bt, aP, ae⟩ cM bL
  obtain ⟨bZ, cH, rfl, ah, ay⟩ := Zx bt
  obtain ⟨β, rfl⟩ := Zk aP
  clear aP
  replace ah : Za6 s k3 = some cH := ah
  unfold Za6 at ah
  refine sq_ fun bM => sq_ fun bN => g_' (qs_ 2 ?_)
  have ac := (ag.fr ae dn_)
  refine ac.sq.ln_ 22 (qs_ 1 (Za (bN _ _ ?_)))
  refine wc_ (k3 < (s.length : Int)) (fun af => ?_) fun af => ?_
  ·have cw := Ze af ah
   refine Zg (bM _ _ (sq_ fun bO => Zl (sq_ fun bP => ?_)))
   refine ZR [0, 1, 2, 3, 4, 5, 6, 7, 8, 9, 10] (by kernel_rfl) ?_
   refine es_ 3 ?_
   obtain ⟨aM, cx⟩ := Zb cw
   refine ac.sq.mx_ 22 aM af (me_ 106 0 (.agg #[i_ ((gt s k3).1), i_ ((gt s k3).2.1), i_ ((gt s k3).2.2)]) ac.sq aM af (es_ 2 ?_))
   obtain ⟨bs, cy⟩ := Zb cx
   refine d_w ((k3 - 1)) (k := .i64) (x := (k3 - 1)) (by kernel_rfl) (Zo bs) ?_
   obtain ⟨ao, cz⟩ := Zb cy
   refine ac.sq.mx_ 22 ao.1 ao.2 (me_ 106 0 (.agg #[i_ ((gt s (k3 - 1)).1), i_ ((gt s (k3 - 1)).2.1), i_ ((gt s (k3 - 1)).2.2)]) ac.sq ao.1 ao.2 ?_)
   obtain ⟨cG, bE, bc⟩ := bs_ cz
   refine dk_ (Zgb ae.wf bE) ?_
   rintro _ aF ⟨rfl, U⟩
   refine ⟨ZL, ?_⟩
   refine ZK ?_
   refine bP _ _ ?_
   refine wb_ (cG) (fun aw => ?_) fun aw => ?_
   ·have cA := Ze aw bc
    refine sq_ fun bQ => g_' (qs_ 2 ?_)
    obtain ⟨aN, cB⟩ := Zb cA
    have bf := (ac.fr U dn_)
    obtain ⟨cU, b9, aj⟩ := Ow.view (P := Tryz.prog) bf (t := 22) (by kernel_rfl) (lo := some (i_ k3)) (l := k3.toNat) (ZcM _ (by have := aN; omega)) (by have := aN; omega)
    obtain ⟨aG, a6, aH, rfl⟩ := aj.form
    refine Zbi (.slice aG a6 aH) (by kernel_rfl) b9 ?_
    refine qs_ 1 (Za (bQ _ _ (sq_ fun bR => sn_ ?_)))
    obtain ⟨aa, bC, cC⟩ := bs_ cB
    refine ZC (fun α ap => Has α [(0, V), (5, i_ aa.2)] /\ FrS Y aF ap /\ Ow Zr 3 ap V aa.1 Y) (fun _ bT => ?_) (fun α ap hM => ?_)
    ·refine Zl ?_
     obtain ⟨a7, bx⟩ := Zt.1 bC
     refine ZI (fun n α aq => ∃ (D : List (Int × Int × Int)), ∃ (k1 : Int), ∃ (e : Int), ZO (fun zz_ => Za5 k3 zz_.1 zz_.2.1 zz_.2.2) n (D, k1, e) = some aa /\ Has α [(0, V), (1, .func (.func 62) #[] #[]), (5, i_ k1), (6, .slice aG a6 aH), (7, i_ e)] /\ FrS Y aF aq /\ Ow Zr 3 aq V D Y) a7 ⟨s, k3, 1, bx, ha_, (fr_ U.wf), bf⟩ ?_
     rintro a7 α aq ⟨D, k1, e, bu, aR, ak, ab⟩ cN aY
     obtain ⟨a8, cI, rfl, ai, az⟩ := Zx bu
     obtain ⟨β, rfl⟩ := Zk aR
     clear aR
     replace ai : Za5 k3 D k1 e = some cI := ai
     unfold Za5 at ai
     refine sq_ fun bV => sq_ fun bW => g_' (qs_ 2 ?_)
     obtain ⟨bA, cQ⟩ := aj.sq ab
     refine bA.ln_ 22 (qs_ 1 (Za (bW _ _ ?_)))
     refine wc_ (e < ((D.drop k3.toNat).length : Int)) (fun Z => ?_) fun Z => ?_
     ·have cD := Ze Z ai
      refine Zg (bV _ _ (sq_ fun aZ => Zl (sq_ fun bX => ?_)))
      refine ZR [0, 1, 2, 3, 4, 5, 6, 7, 8, 9, 10, 11] (by kernel_rfl) ?_
      refine es_ 3 ?_
      obtain ⟨aW, cR⟩ := aj.sq ab
      obtain ⟨al, ca⟩ := Zb cD
      refine aW.mx_ 22 al Z (me_ 106 0 (.agg #[i_ ((gt (D.drop k3.toNat) e).1), i_ ((gt (D.drop k3.toNat) e).2.1), i_ ((gt (D.drop k3.toNat) e).2.2)]) aW al Z (es_ 2 ?_))
      obtain ⟨bm, cc⟩ := Zb ca
      refine d_w ((e - 1)) (k := .i64) (x := (e - 1)) (by kernel_rfl) (Zo bm) ?_
      obtain ⟨aT, cO⟩ := aj.sq ab
      obtain ⟨am, cd⟩ := Zb cc
      refine aT.mx_ 22 am.1 am.2 (me_ 106 0 (.agg #[i_ ((gt (D.drop k3.toNat) (e - 1)).1), i_ ((gt (D.drop k3.toNat) (e - 1)).2.1), i_ ((gt (D.drop k3.toNat) (e - 1)).2.2)]) aT am.1 am.2 ?_)
      obtain ⟨cF, bD, ba⟩ := bs_ cd
      refine dk_ (Zgb ak.wf bD) ?_
      rintro _ cJ ⟨rfl, ad⟩
      refine ⟨ZL, ?_⟩
      refine es_ 1 ?_
      refine ZK ?_
      refine bX _ _ ?_
      refine wb_ ((!cF)) (fun av => ?_) fun av => ?_
      ·have ce := Ze av ba
       refine sq_ fun bG => g_' (qs_ 4 ?_)
       have aC := (ab.fr ad dn_)
       obtain ⟨aU, cP⟩ := aj.sq aC
       refine aU.ix_ 22 al Z (le_ 106 0 (.agg #[i_ ((gt (D.drop k3.toNat) e).1), i_ ((gt (D.drop k3.toNat) e).2.1), i_ ((gt (D.drop k3.toNat) e).2.2)]) aU al Z ?_)
       obtain ⟨an, cg⟩ := Zb ce
       refine aC.sq.ix_ 22 an.1 an.2 ?_
       obtain ⟨cK, b5, bk, bv⟩ := Ow.store (P := Tryz.prog) (t := 106) (off := 0) ad.wf aC an.1 an.2 (.agg #[i_ ((gt (D.drop k3.toNat) e).1), i_ ((gt (D.drop k3.toNat) e).2.1), i_ ((gt (D.drop k3.toNat) e).2.2)]) [i_ ((gt (D.drop k3.toNat) e).1), i_ ((gt (D.drop k3.toNat) e).2.1), i_ ((gt (D.drop k3.toNat) e).2.2)] (by kernel_rfl) (by kernel_rfl) rfl ((gt (D.drop k3.toNat) e).1, (gt (D.drop k3.toNat) e).2.1, (gt (D.drop k3.toNat) e).2.2) (Nat.le_of_ble_eq_true rfl) (by kernel_rfl)
       refine ek_ b5 (Za (bG _ _ (g_' (qs_ 1 ?_))))
       obtain ⟨bn, ch⟩ := Zb cg
       refine w_' ((k1 + 1)) (Zo (by have := bn; omega)) (qs_ 1 (Za (aZ _ _ (g_' (qs_ 1 ?_)))))
       obtain ⟨bo, ci⟩ := Zb ch
       refine w_' ((e + 1)) (Zo (by have := bo; omega)) (qs_ 1 (Za ?_))
       obtain rfl := oi_ ci
       exact aY a8 _ _ lt_ ⟨(D.set k1.toNat ((gt (D.drop k3.toNat) e).1, (gt (D.drop k3.toNat) e).2.1, (gt (D.drop k3.toNat) e).2.2)), (k1 + 1), (e + 1), az, ha_, (fs_ U.wf (fs_ U.wf (fs_ U.wf (fr_ U.wf) ak ir_) ad in_) bk ir_), bv⟩
      have cj := ZM av ba
      refine Zg (aZ _ _ (g_' (qs_ 1 ?_)))
      obtain ⟨bp, ck⟩ := Zb cj
      refine w_' ((e + 1)) (Zo (by have := bp; omega)) (qs_ 1 (Za ?_))
      have cE := (ab.fr ad dn_)
      obtain rfl := oi_ ck
      exact aY a8 _ _ lt_ ⟨D, k1, (e + 1), az, ha_, (fs_ U.wf (fs_ U.wf (fr_ U.wf) ak ir_) ad in_), cE⟩
     have cm := Zi Z ai
     refine ZH (Zj (Zj (ZT ?_)))
     obtain rfl := oi_ cm
     obtain rfl := Zv az
     exact bT _ _ ⟨ha_, (fs_ U.wf (fr_ U.wf) ak ir_), ab⟩
    obtain ⟨aQ, aJ, a1⟩ := hM
    obtain ⟨β, rfl⟩ := Zk aQ
    clear aQ
    refine bR _ _ (sq_ fun bI => g_' (qs_ 2 ?_))
    obtain ⟨aK, cn⟩ := Zb cC
    obtain ⟨cS, b6, bg⟩ := Ow.view (P := Tryz.prog) a1 (t := 22) (by kernel_rfl) (lo := some (i_ aa.2)) (l := aa.2.toNat) (ZcM _ (by have := aK; omega)) (by have := aK; omega)
    obtain ⟨bi, bY, bj, rfl⟩ := bg.form
    refine Zbi (.slice bi bY bj) (by kernel_rfl) b6 ?_
    obtain ⟨bq, co⟩ := Zb cn
    obtain ⟨cL, b7, bl, aS⟩ := View.clear (P := Tryz.prog) (m := 24) (at_ := #[22]) bg ((0, 0, 0) : Int × Int × Int) aJ.wf a1 bq rfl (by kernel_rfl)
    refine ZaL (.tuple #[]) (by kernel_rfl) (Zjp b7) ?_
    refine Za (bI _ _ (sq_ fun bJ => g_' (qs_ 2 ?_)))
    obtain ⟨aL, cp⟩ := Zb co
    obtain ⟨cT, b8, aV⟩ := Ow.head (P := Tryz.prog) aS (t := 22) (by kernel_rfl) (hi := (some (i_ aa.2))) (r := aa.2.toNat) (ZcM _ (by have := aL; omega)) (by have := aL; omega)
    obtain ⟨ar, aB, au, rfl⟩ := aV.form
    refine Zbi (.slice ar aB au) (by kernel_rfl) b8 ?_
    refine qs_ 1 (Za (bJ _ _ ?_))
    refine Zh (ZD (Zf (Zf (ZD (Zf (Zf ?_))))))
    obtain ⟨cV, aX, bF⟩ := map_some cp
    subst bF
    obtain rfl := Zv ay
    have bz := elim_inl bb
    rw [bz] at aX
    refine br_ [.slice ar aB au] ?_
    obtain rfl := oi_ aX
    exact ⟨(.slice ar aB au), rfl, (fs_ O (fs_ O (fs_ O (fs_ O (fr_ O) ae in_) U in_) aJ ir_) bl ir_), aV, aS⟩
   have cq := ZM aw bc
   refine Zg (bO _ _ (g_' (qs_ 1 ?_)))
   obtain ⟨br, cr⟩ := Zb cq
   refine w_' ((k3 + 1)) (Zo (by have := br; omega)) (qs_ 1 (Za ?_))
   obtain rfl := oi_ cr
   exact bL bZ _ _ lt_ ⟨(k3 + 1), ay, ha_, (fs_ O (fs_ O (f0_ O) ae in_) U in_)⟩
  have cu := Zi af ah
  refine ZH (Zj (Zj (ZT ?_)))
  obtain rfl := oi_ cu
  obtain rfl := Zv ay
  exact bK _ _ ⟨_, rfl, ha_, (fs_ O (f0_ O) ae in_)⟩
 obtain ⟨a_, rfl, aO, aI⟩ := hM
 have cv := elim_inr bb
 obtain ⟨β, rfl⟩ := Zk aO
 clear aO
 refine bH _ _ (sn_ ?_)
 refine Zh ?_
 refine br_ [V] ?_
 have be := (ag.fr aI dn_)
 obtain rfl := oi_ cv
 exact ⟨(V), rfl, (fs_ O (fr_ O) aI in_), be, be⟩
theorem Zj5 {H : AH} {al : Value} {bV : Fp} {O : Int} {Arcs : List (Int × Int × Int)} {r : Int × List (Int × Int × Int) × Er}
    (V : WF H) (aW : Sq Zr 3 H al Arcs bV) (aG : Zd7 O Arcs = some r) :
    ACalls Tryz.prog 35 #[.agg #[i_ O, al]] H fun v H' => ∃ (bD : Value) (aS : Fp) (bL : Value) (aT : Fp), v = .tuple #[.agg #[i_ r.1, bD], bL] /\ FrS [] H H' /\ Ow Zr 3 H' bD r.2.1 aS /\ Ev 48 82 H' bL r.2.2 aT /\ Inn [] H aS /\ Inn [] H aT /\ Dj aS aT := by
 refine ab_ Tryz.func35 ?_
 unfold Zd7 at aG
 refine sq_ fun cg => g_' ?_
 refine ZaK V [i_ O, al] (Zu (rfl) (Zu (aW.one1) (Z1))) (by kernel_rfl) fun dy dk ab dB bB => ?_
 refine rk_ ab.wf [i_ 0, .slice none 0 0] fun aA dr ac bi av => ?_
 refine qs_ 1 (Za (cg _ _ (sq_ fun cm => sq_ fun cn => g_' ?_)))
 have bH := (bB.ext ac)
 refine lr_ 24 0 (.agg #[i_ O, al]) bH ?_
 have bI := ((aW.ext ab).ext ac)
 obtain ⟨dL, cc, bC⟩ := bs_ aG
 refine ck_ (ZiI ac.wf bI cc) ?_
 rintro dI dt ⟨_, bU, rfl, U, bt, bo⟩
 refine qs_ 1 (Za (cn _ _ (sq_ fun bq => g_' (qs_ 1 ?_))))
 rcases (bt).cases with ⟨aV, rfl⟩ | ⟨aV, ba, bb, rfl⟩
 ·have cY := Ze aV bC
  refine qs_ 1 (Za (bq _ _ ?_))
  refine wb_ false (fun h => by cases h) fun _ => ?_
  refine Zg (cm _ _ (sq_ fun co => g_' (qs_ 1 ?_)))
  have bJ := (bH.frS U dn_)
  refine lr_ 3 0 (i_ O) bJ (qs_ 1 ?_)
  refine rk_ U.wf [i_ 0, .slice none 0 0] fun ah du af ak an => ?_
  obtain ⟨aw, cH, D, cZ⟩ := ra_ 24 0 af.wf an [i_ O, .slice none 0 0] [i_ O, .slice none 0 0]
  refine ek_ cH (Za (co _ _ (sq_ fun cp => sq_ fun cq => g_' (qs_ 1 ?_))))
  have cA := (t_ ac.n U.n)
  have bS := (ak.djn (bB.ltF.le cA))
  have dd := ((bJ.ext af).frS D bS)
  refine lr_ 22 1 (al) dd ?_
  have aI := (t_ (t_ ab.n ac.n) U.n)
  have bd := (ak.djn (aW.lt.le aI))
  have bK := (((bI.fr U dn_).ext af).fr D bd)
  refine bK.ln_ 22 (qs_ 1 (Za (cq _ _ ?_)))
  obtain ⟨bz, b8, c0⟩ := bs_ cY
  refine ZC (fun α ax => ∃ (a7 : Value) (aF : Fp), Has α [(2, pt_ aA 0), (5, pt_ ah 0)] /\ FrS [ah] aw ax /\ Ow Zr 3 ax a7 bz aF /\ Row ax ah [i_ O, a7] /\ Inn [] aw aF) (fun _ cr => ?_) (fun α ax hM => ?_)
  ·refine Zl ?_
   obtain ⟨bw, b7⟩ := Zt.1 b8
   refine ZI (fun n α ay => ∃ (e : Int), ∃ (c1 : List (Int × Int × Int)), ∃ (a8 : Value), ∃ (ao : Fp), ZO (fun zz_ => Zdh Arcs zz_.1 zz_.2) n (e, c1) = some bz /\ Has α [(2, pt_ aA 0), (5, pt_ ah 0), (18, al), (19, i_ (Arcs.length : Int)), (20, i_ e)] /\ FrS [ah] aw ay /\ Ow Zr 3 ay a8 c1 ao /\ Row ay ah [i_ O, a8] /\ Inn [] aw ao) bw ⟨0, [], (.slice none 0 0), [], b7, ha_, (fr_ D.wf), (Ow.nil (by decide)), cZ, in_⟩ ?_
   rintro bw α ay ⟨e, c1, a8, ao, b5, bl, Y, am, aY, au⟩ dv br
   obtain ⟨bx, de, rfl, aq, aX⟩ := Zx b5
   obtain ⟨β, rfl⟩ := Zk bl
   clear bl
   replace aq : Zdh Arcs e c1 = some de := aq
   unfold Zdh at aq
   obtain ⟨aK, a2, aM, rfl⟩ := am.form
   refine sn_ (sq_ fun cd => ?_)
   refine wc_ (e < (Arcs.length : Int)) (fun ap => ?_) fun ap => ?_
   ·have cI := Ze ap aq
    refine Zg (cd _ _ (sq_ fun bp => Zl (sq_ fun ce => g_' ?_)))
    obtain ⟨bh, bA⟩ := Zb cI
    have bE := (bK.fr Y bd)
    refine bE.ix_ 22 bh ap (le_ 106 0 (.agg #[i_ ((gt Arcs e).1), i_ ((gt Arcs e).2.1), i_ ((gt Arcs e).2.2)]) bE bh ap ?_)
    refine rk_ Y.wf [i_ 0, i_ 0, i_ 0] fun dx df Z aj cJ => ?_
    obtain ⟨dg, cB, aa, a6⟩ := ra_ 106 0 Z.wf cJ [i_ ((gt Arcs e).1), i_ ((gt Arcs e).2.1), i_ ((gt Arcs e).2.2)] [i_ ((gt Arcs e).1), i_ ((gt Arcs e).2.1), i_ ((gt Arcs e).2.2)]
    refine ek_ cB (Za (ce _ _ (sq_ fun cf => g_' (qs_ 1 (lr_ 3 0 (i_ ((gt Arcs e).1)) a6 (qs_ 1 (lr_ 3 1 (i_ ((gt Arcs e).2.1)) a6 (qs_ 1 (Za (cf _ _ ?_))))))))))
    refine Zdi (((gt Arcs e).1) = ((gt Arcs e).2.1)) (by kernel_rfl) rfl (fun aU => ?_) (fun aU => ?_)
    ·have cK := Zi aU bA
     refine g_' (qs_ 1 ?_)
     have cu := (t_ D.n Y.n)
     have bO := (aj.djn (an.ltF.le cu))
     have bF := ((aY.ext Z).frS aa bO)
     refine lr_ 22 1 (.slice aK a2 aM) bF (lr_ 106 0 (.agg #[i_ ((gt Arcs e).1), i_ ((gt Arcs e).2.1), i_ ((gt Arcs e).2.2)]) a6 ?_)
     refine Zbo (enc := Zr) (sz := 3) aa.wf [((gt Arcs e).1, (gt Arcs e).2.1, (gt Arcs e).2.2)] 1 (by decide) (fun _ _ => rfl) (fun _ _ => rfl) rfl (by kernel_rfl) fun dF dA dh ai dC bm => ?_
     obtain ⟨dw, dE, dz, rfl⟩ := bm.form
     have c3 := (((am.ext Z).fr aa (aj.djn am.lt)).ext ai)
     obtain ⟨bW, cL⟩ := Zb cK
     obtain ⟨dG, di, bT, cC, aQ, bn, bj⟩ := Ow.append (P := Tryz.prog) 24 ai.wf c3 bm.sq (fun _ _ => rfl) (at_ := #[22, 22]) rfl rfl (by kernel_rfl) (by kernel_rfl) (by decide) (by have := bW; first | omega | (simp only [List.length_cons, List.length_nil] at this ⊢; omega) | (simp at this ⊢; omega))
     obtain ⟨az, aH, aB, rfl⟩ := bn.form
     refine ZaL (.slice az aH aB) (by kernel_rfl) (cC) ?_
     refine qs_ 1 ?_
     have bc := (au.djn (an.ltF.le D.n))
     have c4 := ((bF.ext ai).frS aQ bc)
     obtain ⟨dm, cD, be, cM⟩ := rb_ 22 1 aQ.wf c4 (.slice az aH aB) [i_ O, .slice az aH aB]
     refine ek_ cD (Za (bp _ _ (g_' ?_)))
     obtain ⟨bX, cN⟩ := Zb cL
     refine w_' ((e + 1)) (Zo (by have := bX; omega)) (qs_ 1 (Za ?_))
     have cv := (t_ (t_ (t_ (t_ D.n Y.n) Z.n) aa.n) ai.n)
     have bP := (bj.dj bc (an.ltF.le cv))
     have c5 := (bn.fr be (Dj.symm bP))
     have cw := (t_ (t_ (t_ Y.n Z.n) aa.n) ai.n)
     obtain rfl := oi_ cN
     exact br bx _ _ lt_ ⟨(e + 1), (c1 ++ [((gt Arcs e).1, (gt Arcs e).2.1, (gt Arcs e).2.2)]), (.slice az aH aB), bT, aX, ha_, (fs_ D.wf (fs_ D.wf ((fs_ D.wf ((fs_ D.wf (fr_ D.wf) Y ir_).extR Z) aa (aj.fresh Y.n)).extR ai) aQ (au.fresh (Nat.le_refl _))) be ir_), c5, cM, (Inn.trans (au.fresh (Nat.le_refl _)) cw bj)⟩
    have cO := Ze aU bA
    refine Zg (bp _ _ (g_' ?_))
    obtain ⟨bY, cP⟩ := Zb cO
    refine w_' ((e + 1)) (Zo (by have := bY; omega)) (qs_ 1 (Za ?_))
    have c6 := ((am.ext Z).fr aa (aj.djn am.lt))
    have cx := (t_ D.n Y.n)
    have bQ := (aj.djn (an.ltF.le cx))
    have c7 := ((aY.ext Z).frS aa bQ)
    obtain rfl := oi_ cP
    exact br bx _ _ lt_ ⟨(e + 1), c1, (.slice aK a2 aM), ao, aX, ha_, (fs_ D.wf ((fs_ D.wf (fr_ D.wf) Y ir_).extR Z) aa (aj.fresh Y.n)), c6, c7, (au.fresh (Nat.le_refl _))⟩
   have cQ := Zi ap aq
   refine ZH (Zj (Zj (ZT ?_)))
   obtain rfl := oi_ cQ
   obtain rfl := Zv aX
   exact cr _ _ ⟨(.slice aK a2 aM), ao, ha_, (fs_ D.wf (fr_ D.wf) Y ir_), am, aY, (au.fresh (Nat.le_refl _))⟩
  obtain ⟨a7, aF, bk, aR, bu, bv, ar⟩ := hM
  obtain ⟨β, rfl⟩ := Zk bk
  clear bk
  obtain ⟨aJ, aZ, aL, rfl⟩ := bu.form
  refine cp _ _ (sq_ fun ch => g_' (qs_ 1 (lr_ 22 1 (.slice aJ aZ aL) bv ?_)))
  obtain ⟨bZ, cR⟩ := Zb c0
  obtain ⟨dJ, b9, cS⟩ := bs_ cR
  refine Zgu 59 #[.slice aJ aZ aL, .func (.func 60) #[] #[]] (by kernel_rfl) (ZnF (enc := Zr) (fun _ => rfl) (by intro x v hv; simp only [Zr, List.mem_cons, List.not_mem_nil, or_false] at hv; rcases hv with rfl | rfl | rfl <;> rfl) (by intro x v hv; simp only [Zr, List.mem_cons, List.not_mem_nil, or_false] at hv; rcases hv with rfl | rfl | rfl <;> rfl) (c := (fun (a_ b_ : Int × Int × Int) => Zce a_.1 a_.2.1 a_.2.2 b_.1 b_.2.1 b_.2.2)) (Go.Proofs.enters_of Tryz.func60 (by kernel_rfl) rfl) (fun x y r aG => (Zia Znz aG).mono fun v H' h => h.1) aR.wf bu bZ b9) ?_
  rintro _ dn ⟨rfl, aC, b6⟩
  refine Za (ch _ _ (sq_ fun ci => g_' (qs_ 1 ?_)))
  have aN := (ar.djn (an.ltF.le D.n))
  have bG := (bv.frS aC aN)
  refine lr_ 22 1 (.slice aJ aZ aL) bG ?_
  obtain ⟨dK, ca, cT⟩ := bs_ cS
  refine ck_ (ZfZ aC.wf b6 ca) ?_
  rintro dH dp ⟨_, rfl, aD, bs, dD⟩
  obtain ⟨ad, ag, ae, rfl⟩ := bs.form
  refine qs_ 1 ?_
  have c8 := (bG.frS aD aN)
  obtain ⟨dq, cE, aE, cU⟩ := rb_ 22 1 aD.wf c8 (.slice ad ag ae) [i_ O, .slice ad ag ae]
  refine ek_ cE (Za (ci _ _ (sq_ fun cj => g_' (lr_ 24 0 (.agg #[i_ O, .slice ad ag ae]) cU ?_))))
  have aO := (ak.djn (av.ltF.le U.n))
  have cy := (t_ (t_ U.n af.n) D.n)
  have aP := (ar.djn (av.ltF.le cy))
  have c9 := (((((((av.frS U dn_).ext af).frS D aO).frS aR aO).frS aC aP).frS aD aP).frS aE aO)
  have c_ := (bs.fr aE (Dj.symm aN))
  obtain ⟨bM, cF, bf, cV⟩ := ra_ 24 0 aE.wf c9 [i_ O, .slice ad ag ae] [i_ O, .slice ad ag ae]
  refine ek_ cF (qs_ 1 (Za (cj _ _ ?_)))
  refine Zh ?_
  refine Zac (vs := [.agg #[i_ O, .slice ad ag ae], .nilIface]) (ZQ (Eq.trans (b := aL_ 24 (pt_ aA 0) bM) (by kernel_rfl) (cV.l_)) (rt_ (rfl))) ?_
  have a1 := (t_ (t_ (t_ (t_ ab.n ac.n) U.n) af.n) D.n)
  have da := (c_.fr bf (Dj.symm aP))
  obtain rfl := oi_ cT
  exact ⟨(.slice ad ag ae), aF, (.nilIface), [], rfl, (fs_ V (fs_ V (fs_ V (fs_ V (fs_ V (fs_ V ((fs_ V (((f0_ V).extR ab).extR ac) U in_).extR af) D (ak.fresh aI)) aR (ak.fresh aI)) aC (ar.fresh a1)) aD (ar.fresh a1)) aE (ak.fresh aI)) bf (bi.fresh ab.n)), da, Ev.nil, (ar.fresh a1), in_, Dj.nil_r⟩
 have cW := Zi aV bC
 refine l_' (.bool true) (Zbl Tryz.prog .neq 39 (.tmp 10) (.const .nilIface) (.iface ba bb) .nilIface) (ZcT (by kernel_rfl)) (Za (bq _ _ ?_))
 refine wb_ true (fun _ => ?_) fun h => by cases h
 refine sq_ fun ck => g_' (qs_ 2 ?_)
 have db := (av.frS U dn_)
 obtain ⟨bN, cG, bg, cX⟩ := ra_ 24 0 U.wf db [i_ 0, .slice none 0 0] [i_ 0, .slice none 0 0]
 refine ek_ cG (qs_ 1 (Za (ck _ _ ?_)))
 refine Zh (Zf ?_)
 refine Zac (vs := [.agg #[i_ 0, .slice none 0 0], .iface ba bb]) (ZQ (Eq.trans (b := aL_ 24 (pt_ aA 0) bN) (by kernel_rfl) (cX.l_)) (rt_ (rfl))) ?_
 have bR := (bo.djn av.ltF)
 have dc := (bt.fr bg (Dj.symm bR))
 have cz := (t_ ab.n ac.n)
 obtain rfl := oi_ cW
 exact ⟨(.slice none 0 0), [], (.iface ba bb), bU, rfl, (fs_ V (fs_ V (((f0_ V).extR ab).extR ac) U in_) bg (bi.fresh ab.n)), (Ow.nil (by decide)), dc, in_, (bo.fresh cz), dn_⟩
end Go.Vd

/-! (KSc1) -/

set_option maxRecDepth 100000
set_option maxHeartbeats 4000000
set_option linter.unusedVariables false
namespace Go.Vd
open Go.Proofs
attribute [local irreducible] Zp Zq aWp
theorem Zgd {H : AH} {aS : Value} {cE : Fp} {aM : Int} {Arcs : List (Int × Int × Int)} {r : (Er) ⊕ (List (Bool × List (Int × Int × Int) × List (Int × Int × Int)) × Int × Int)}
    (ap : WF H) (bC : Sq Zr 3 H aS Arcs cE) (bM : Zc7 aM Arcs = some r) :
    ACalls Tryz.prog 14 #[.agg #[i_ aM, aS]] H fun v H' => Sum.elim (fun (r : Er) => ∃ (v3 : Value) (bz : Fp), v = .tuple #[.pointer none, v3] /\ FrS [] H H' /\ Ev 48 82 H' v3 r bz /\ Inn [] H bz) (fun (r : List (Bool × List (Int × Int × Int) × List (Int × Int × Int)) × Int × Int) => ∃ (bX : Value) (bc : Fp) (aN : Nat), v = .tuple #[pt_ aN 0, .nilIface] /\ FrS [] H H' /\ Nd Zc 3 H' bX r.1 bc [] /\ Row H' aN [bX, i_ r.2.1, i_ r.2.2] /\ Inn [] H bc /\ Inn [] H [aN] /\ Dj bc [aN]) r := by
 refine ab_ Tryz.func14 ?_
 unfold Zc7 at bM
 refine sq_ fun c8 => g_' ?_
 refine ZaK ap [i_ aM, aS] (Zu (rfl) (Zu (bC.one1) (Z1))) (by kernel_rfl) fun ec d6 ad eq dG => ?_
 refine qs_ 2 (Za (c8 _ _ (sq_ fun c9 => g_' (lr_ 24 0 (.agg #[i_ aM, aS]) dG ?_))))
 have dX := (bC.ext ad)
 obtain ⟨e, cZ, bV⟩ := bs_ bM
 refine ck_ (Zj5 ad.wf dX cZ) ?_
 rintro _ d7 ⟨eB, f29, eF, cD, rfl, an, aW, bR, eu, c0, eh⟩
 obtain ⟨aA, aF, aB, rfl⟩ := aW.form
 refine qs_ 3 ?_
 refine rk_ an.wf [i_ 0, .slice none 0 0] fun ed d8 af aR dM => ?_
 have d1 := (aW.ext af)
 obtain ⟨d9, dz, ag, bW⟩ := ra_ 24 0 af.wf dM [i_ e.1, .slice aA aF aB] [i_ e.1, .slice aA aF aB]
 refine ek_ dz (qs_ 1 (Za (c9 _ _ (sq_ fun c_ => sq_ fun bO => g_' (qs_ 1 ?_)))))
 have b6 := ((bR.ext af).fr ag (aR.djn bR.lt))
 rcases (b6).cases with ⟨bd, rfl⟩ | ⟨bd, bi, bo, rfl⟩
 ·have dN := Ze bd bV
  refine qs_ 1 (Za (bO _ _ ?_))
  refine wb_ false (fun h => by cases h) fun _ => ?_
  refine Zg (c_ _ _ (sq_ fun da => ?_))
  refine ZR [0, 1, 2, 3, 4, 5, 6, 7, 8, 9, 10] (by kernel_rfl) ?_
  refine es_ 1 (mr_ 3 0 (i_ e.1) bW ?_)
  obtain ⟨bB, dO⟩ := Zb dN
  refine ZhL (t := 102) (m := 56) (l := e.1) (c := e.1) (enc := id) (sz := 3) ag.wf [.bool false, .slice none 0 0, .slice none 0 0] (by kernel_rfl) (by decide) bB.1 (Int.le_refl _) (by omega) (by have := bB; omega) (by kernel_rfl) fun eC ax ca aw bf ah => ?_
  replace ah := Nd.zeros (enc := Zc) (sz := 3) (by decide) ah
  obtain ⟨U, Y, V, rfl⟩ := ah.form
  have ah : Nd Zc 3 ca (.slice U Y V) (List.replicate e.1.toNat (false, [], [])) ax [] := ah
  refine es_ 1 ?_
  have bn := (bW.ext aw)
  refine mr_ 3 0 (i_ e.1) bn (es_ 1 (mr_ 22 1 (.slice aA aF aB) bn ?_))
  have b7 := ((d1.fr ag (aR.djn aW.lt)).ext aw)
  refine b7.sq.mn_ 22 (es_ 1 ?_)
  refine d_rwl aw.wf [.slice U Y V, i_ e.1, i_ (e.2.1.length : Int)] (Zu (ah.one1) (Zu (rfl) (Zu (rfl) (Z1)))) (by kernel_rfl) fun aj aL Z be ai => ?_
  refine es_ 1 ?_
  refine ZK ?_
  refine da _ _ (sq_ fun db => sq_ fun dc => g_' (qs_ 1 ?_))
  have d2 := (bn.ext Z)
  refine lr_ 22 1 (.slice aA aF aB) d2 ?_
  have b8 := (b7.ext Z)
  refine b8.sq.ln_ 22 (qs_ 1 (Za (dc _ _ ?_)))
  obtain ⟨bU, cY, dP⟩ := bs_ dO
  refine ZC (fun α a_ => ∃ (aP : Fp), Has α [(6, pt_ aj 0)] /\ FrS ax aL a_ /\ Nd Zc 3 a_ (.slice U Y V) bU aP [] /\ Inn ax aL aP) (fun _ dd => ?_) (fun α a_ hM => ?_)
  ·refine Zl ?_
   obtain ⟨bT, cR⟩ := Zt.1 cY
   have dQ := (ah.ext Z)
   refine ZI (fun n α a6 => ∃ (D : Int), ∃ (O : List (Bool × List (Int × Int × Int) × List (Int × Int × Int))), ∃ (aC : Fp), ZO (fun zz_ => ZcY e zz_.1 zz_.2) n (D, O) = some bU /\ Has α [(6, pt_ aj 0), (28, .slice aA aF aB), (29, i_ (e.2.1.length : Int)), (30, i_ D)] /\ FrS ax aL a6 /\ Nd Zc 3 a6 (.slice U Y V) O aC [] /\ Inn ax aL aC) bT ⟨0, (List.replicate e.1.toNat (false, [], [])), ax, cR, ha_, (fr_ Z.wf), dQ, ir_⟩ ?_
   rintro bT α a6 ⟨D, O, aC, cM, bF, ae, aV, aq⟩ d_ c3
   obtain ⟨df, d4, rfl, aE, bL⟩ := Zx cM
   obtain ⟨β, rfl⟩ := Zk bF
   clear bF
   replace aE : ZcY e D O = some d4 := aE
   unfold ZcY at aE
   refine sn_ (sq_ fun c4 => ?_)
   refine wc_ (D < (e.2.1.length : Int)) (fun aD => ?_) fun aD => ?_
   ·have dA := Ze aD aE
    refine Zg (c4 _ _ (sq_ fun c5 => Zl (sq_ fun c6 => g_' ?_)))
    obtain ⟨bA, dB⟩ := Zb dA
    have dg := (t_ af.n ag.n)
    have ck := (bf.djn (aW.lt.le dg))
    have bY := (b8.fr ae ck)
    refine bY.sq.ix_ 22 bA aD (le_ 106 0 (.agg #[i_ ((gt e.2.1 D).1), i_ ((gt e.2.1 D).2.1), i_ ((gt e.2.1 D).2.2)]) bY.sq bA aD ?_)
    refine rk_ ae.wf [i_ 0, i_ 0, i_ 0] fun aO d5 ar aQ aG => ?_
    obtain ⟨aK, du, ak, aH⟩ := ra_ 106 0 ar.wf aG [i_ ((gt e.2.1 D).1), i_ ((gt e.2.1 D).2.1), i_ ((gt e.2.1 D).2.2)] [i_ ((gt e.2.1 D).1), i_ ((gt e.2.1 D).2.1), i_ ((gt e.2.1 D).2.2)]
    refine ek_ du (Za (c6 _ _ (sq_ fun c7 => ?_)))
    refine ZR [0, 1, 2, 3, 4, 5, 6, 7, 8, 9, 10, 11, 12, 13, 14, 15, 16, 17, 18, 19, 20, 21, 22, 23, 24, 25] (by kernel_rfl) ?_
    refine es_ 3 ?_
    have br := (be.djn ah.lt)
    have cm := (aQ.djn (ai.ltF.le ae.n))
    have bj := (((ai.frS ae (Dj.symm br)).ext ar).frS ak cm)
    refine Zcz (.slice U Y V) (x := aL_ 102 (pt_ aj 0) aK) (by kernel_rfl) (bj.l_) ?_
    refine es_ 1 ?_
    refine Zcz (i_ ((gt e.2.1 D).1)) (x := aL_ 3 (pt_ aO 0) aK) (by kernel_rfl) (aH.l_) ?_
    refine es_ 3 (mr_ 102 0 (.slice U Y V) bj (es_ 1 (mr_ 3 0 (i_ ((gt e.2.1 D).1)) aH ?_)))
    obtain ⟨aa, dC⟩ := Zb dB
    have aY := ((aV.ext ar).fr ak (aQ.djn aV.lt))
    refine aY.mx_ 102 aa.1 aa.2 (m_' (elp (.slice U Y V) 3 ((gt e.2.1 D).1).toNat 1) (Zy Tryz.prog 108 (elp (.slice U Y V) 3 ((gt e.2.1 D).1).toNat 0) 1) (Nd.fldq (d := 1) aY aa.1 aa.2 (by kernel_rfl)) ?_)
    obtain ⟨dR, eD, cP, cN⟩ := Nd.at aY aa.1 aa.2
    have bP : KdS Zc 3 aK dR ((gt O ((gt e.2.1 D).1)).2.1) aC (.slice U Y V) 3 ((gt e.2.1 D).1).toNat 1 := cN false (by simp)
    obtain ⟨cc, dh, cg, rfl⟩ := bP.sq.form
    refine m_' (.slice cc dh cg) (aL_ 92 (elp (.slice U Y V) 3 ((gt e.2.1 D).1).toNat 1) aK) (cP _ _ _ _ (by kernel_rfl)) (es_ 1 (mr_ 3 1 (i_ ((gt e.2.1 D).2.1)) aH (es_ 1 (mr_ 3 2 (i_ ((gt e.2.1 D).2.2)) aH ?_))))
    obtain ⟨cF, dD⟩ := Zb dC
    refine d_w ((gt e.2.1 D).2.2) (k := .u64) (x := (gt e.2.1 D).2.2) (by kernel_rfl) (ZdA cF) ?_
    refine es_ 1 ?_
    refine Zhx (enc := Zc) (sz := 3) ak.wf [((gt e.2.1 D).2.1, (gt e.2.1 D).2.2, (-1))] 1 (by decide) (fun _ _ => rfl) (fun _ _ => rfl) rfl (by kernel_rfl) fun ex ej a7 ac es bH => ?_
    obtain ⟨ea, ev, ee, rfl⟩ := bH.form
    have dS := (aY.ext ac)
    have dT := (bP.ext ac)
    obtain ⟨cB, ek, aT, cS, bs, cU, cV⟩ := Nd.borrow false dS aa.1 aa.2 (by simp) dT rfl
    have aZ := Inn.sub' (H := a7) cU
    have a1 := Inn.sub' (H := a7) cV
    have aT : Nd Zc 3 a7 (.slice U Y V) O cB [(((gt e.2.1 D).1).toNat, false)] := aT
    obtain ⟨cG, dE⟩ := Zb dD
    obtain ⟨ey, bp, el, dv, al, bI, bD⟩ := Ow.append (P := Tryz.prog) 24 ac.wf cS bH.sq (fun _ _ => rfl) (at_ := #[92, 92]) rfl rfl (by kernel_rfl) (by kernel_rfl) (by decide) (by have := cG; first | omega | (simp only [List.length_cons, List.length_nil] at this ⊢; omega) | (simp at this ⊢; omega))
    obtain ⟨cd, di, ch, rfl⟩ := bI.form
    have ba := (aq.dj (Dj.symm br) ai.ltF)
    have ao := (t_ (t_ (t_ ae.n ar.n) ak.n) ac.n)
    have cn := (a1.dj ba (ai.ltF.le ao))
    have bZ := ((bj.ext ac).frS al cn)
    have bb := (aQ.djn aV.lt)
    have bh := (t_ ak.n ac.n)
    have co := (a1.dj (Dj.symm bb) (aG.ltF.le bh))
    have b5 := ((aH.ext ac).frS al co)
    refine Zgz (.slice cd di ch) (by kernel_rfl) (dv) (ZaP (y := aL_ 3 (pt_ aO 0) bp) (by kernel_rfl) (b5.l_) (ZaP (y := aL_ 102 (pt_ aj 0) bp) (by kernel_rfl) (bZ.l_) (ZL))) ?_
    have bk := (aT.fr al (Dj.symm bs))
    refine bk.mx_ 102 aa.1 aa.2 (m_' (elp (.slice U Y V) 3 ((gt e.2.1 D).1).toNat 1) (Zy Tryz.prog 108 (elp (.slice U Y V) 3 ((gt e.2.1 D).1).toNat 0) 1) (Nd.fldq (d := 1) bk aa.1 aa.2 (by kernel_rfl)) ?_)
    have cp := (bD.dj (Dj.symm bs) aT.lt)
    obtain ⟨az, bw, dw, au, ay, cK⟩ := Nd.close (P := Tryz.prog) (t := 92) false al.wf bk bI (Dj.symm cp) aa.1 aa.2 (by kernel_rfl) (by kernel_rfl) (by kernel_rfl)
    have ay : Nd Zc 3 az (.slice U Y V) (O.set ((gt e.2.1 D).1).toNat ((gt O ((gt e.2.1 D).1)).1, ((gt O ((gt e.2.1 D).1)).2.1 ++ [((gt e.2.1 D).2.1, (gt e.2.1 D).2.2, (-1))]), (gt O ((gt e.2.1 D).1)).2.2)) bw [] := ay
    have aJ := cK.grow3 (Inn.trans ir_ (Nat.le_refl _) aZ) (Inn.trans (Inn.trans ir_ (Nat.le_refl _) a1) (Nat.le_refl _) bD) al.n
    refine fk_ dw (Zap (by kernel_rfl) (Zap (by kernel_rfl) (ZL))) ?_
    refine ZK ?_
    refine c7 _ _ ?_
    refine ZR [0, 1, 2, 3, 4, 5, 6, 7, 8, 9, 10, 11, 12, 13, 14, 15, 16, 17, 18, 19, 20, 21, 22, 23, 24, 25] (by kernel_rfl) ?_
    refine es_ 3 ?_
    have cq := (aZ.dj ba (ai.ltF.le ao))
    have bl := (bZ.frS au cq)
    refine Zcz (.slice U Y V) (x := aL_ 102 (pt_ aj 0) az) (by kernel_rfl) (bl.l_) ?_
    refine es_ 1 ?_
    have cr := (aZ.dj (Dj.symm bb) (aG.ltF.le bh))
    have aI := (b5.frS au cr)
    refine Zcz (i_ ((gt e.2.1 D).2.1)) (x := aL_ 3 (pt_ aO 1) az) (by kernel_rfl) (aI.l_) ?_
    refine es_ 3 (mr_ 102 0 (.slice U Y V) bl (es_ 1 (mr_ 3 1 (i_ ((gt e.2.1 D).2.1)) aI ?_)))
    obtain ⟨ab, dF⟩ := Zb dE
    refine ay.mx_ 102 ab.1 ab.2 (m_' (elp (.slice U Y V) 3 ((gt e.2.1 D).2.1).toNat 2) (Zy Tryz.prog 108 (elp (.slice U Y V) 3 ((gt e.2.1 D).2.1).toNat 0) 2) (Nd.fldq (d := 2) ay ab.1 ab.2 (by kernel_rfl)) ?_)
    obtain ⟨eE, dU, cQ, cO⟩ := Nd.at ay ab.1 ab.2
    have bQ : KdS Zc 3 az dU ((gt (O.set ((gt e.2.1 D).1).toNat ((gt O ((gt e.2.1 D).1)).1, ((gt O ((gt e.2.1 D).1)).2.1 ++ [((gt e.2.1 D).2.1, (gt e.2.1 D).2.2, (-1))]), (gt O ((gt e.2.1 D).1)).2.2)) ((gt e.2.1 D).2.1)).2.2) bw (.slice U Y V) 3 ((gt e.2.1 D).2.1).toNat 2 := cO true (by simp)
    obtain ⟨ce, dk, ci, rfl⟩ := bQ.sq.form
    refine m_' (.slice ce dk ci) (aL_ 92 (elp (.slice U Y V) 3 ((gt e.2.1 D).2.1).toNat 2) az) (cQ _ _ _ _ (by kernel_rfl)) (es_ 1 (mr_ 3 0 (i_ ((gt e.2.1 D).1)) aI (es_ 1 (mr_ 3 2 (i_ ((gt e.2.1 D).2.2)) aI ?_))))
    obtain ⟨cH, dH⟩ := Zb dF
    refine d_w ((gt e.2.1 D).2.2) (k := .u64) (x := (gt e.2.1 D).2.2) (by kernel_rfl) (ZdA (by have := cH; omega)) ?_
    refine es_ 1 ?_
    refine Zhx (enc := Zc) (sz := 3) au.wf [((gt e.2.1 D).1, (gt e.2.1 D).2.2, (-1))] 1 (by decide) (fun _ _ => rfl) (fun _ _ => rfl) rfl (by kernel_rfl) fun ez em a8 am et bJ => ?_
    obtain ⟨eb, ew, ef, rfl⟩ := bJ.form
    have dV := (ay.ext am)
    have dW := (bQ.ext am)
    obtain ⟨cC, eo, aU, cT, bt, cW, cX⟩ := Nd.borrow true dV ab.1 ab.2 (by simp) dW rfl
    have b9 := Inn.sub' (H := a8) cW
    have a2 := Inn.sub' (H := a8) cX
    have aU : Nd Zc 3 a8 (.slice U Y V) (O.set ((gt e.2.1 D).1).toNat ((gt O ((gt e.2.1 D).1)).1, ((gt O ((gt e.2.1 D).1)).2.1 ++ [((gt e.2.1 D).2.1, (gt e.2.1 D).2.2, (-1))]), (gt O ((gt e.2.1 D).1)).2.2)) cC [(((gt e.2.1 D).2.1).toNat, true)] := aU
    obtain ⟨cI, dI⟩ := Zb dH
    obtain ⟨eA, bq, ep, dx, av, bK, bE⟩ := Ow.append (P := Tryz.prog) 24 am.wf cT bJ.sq (fun _ _ => rfl) (at_ := #[92, 92]) rfl rfl (by kernel_rfl) (by kernel_rfl) (by decide) (by have := cI; first | omega | (simp only [List.length_cons, List.length_nil] at this ⊢; omega) | (simp at this ⊢; omega))
    obtain ⟨cf, dm, cj, rfl⟩ := bK.form
    have cu := (aJ.dj ba (ai.ltF.le ao))
    have aX := (t_ (t_ (t_ (t_ (t_ (t_ ae.n ar.n) ak.n) ac.n) al.n) au.n) am.n)
    have cv := (a2.dj cu (ai.ltF.le aX))
    have dY := ((bl.ext am).frS av cv)
    have cw := (aJ.dj (Dj.symm bb) (aG.ltF.le bh))
    have dn := (t_ (t_ (t_ (t_ ak.n ac.n) al.n) au.n) am.n)
    have cx := (a2.dj cw (aG.ltF.le dn))
    have dZ := ((aI.ext am).frS av cx)
    refine Zgz (.slice cf dm cj) (by kernel_rfl) (dx) (ZaP (y := aL_ 3 (pt_ aO 1) bq) (by kernel_rfl) (dZ.l_) (ZaP (y := aL_ 102 (pt_ aj 0) bq) (by kernel_rfl) (dY.l_) (ZL))) ?_
    have bm := (aU.fr av (Dj.symm bt))
    refine bm.mx_ 102 ab.1 ab.2 (m_' (elp (.slice U Y V) 3 ((gt e.2.1 D).2.1).toNat 2) (Zy Tryz.prog 108 (elp (.slice U Y V) 3 ((gt e.2.1 D).2.1).toNat 0) 2) (Nd.fldq (d := 2) bm ab.1 ab.2 (by kernel_rfl)) ?_)
    have cy := (bE.dj (Dj.symm bt) aU.lt)
    obtain ⟨b_, bx, dy, cA, bg, cL⟩ := Nd.close (P := Tryz.prog) (t := 92) true av.wf bm bK (Dj.symm cy) ab.1 ab.2 (by kernel_rfl) (by kernel_rfl) (by kernel_rfl)
    have bg : Nd Zc 3 b_ (.slice U Y V) ((O.set ((gt e.2.1 D).1).toNat ((gt O ((gt e.2.1 D).1)).1, ((gt O ((gt e.2.1 D).1)).2.1 ++ [((gt e.2.1 D).2.1, (gt e.2.1 D).2.2, (-1))]), (gt O ((gt e.2.1 D).1)).2.2)).set ((gt e.2.1 D).2.1).toNat ((gt (O.set ((gt e.2.1 D).1).toNat ((gt O ((gt e.2.1 D).1)).1, ((gt O ((gt e.2.1 D).1)).2.1 ++ [((gt e.2.1 D).2.1, (gt e.2.1 D).2.2, (-1))]), (gt O ((gt e.2.1 D).1)).2.2)) ((gt e.2.1 D).2.1)).1, (gt (O.set ((gt e.2.1 D).1).toNat ((gt O ((gt e.2.1 D).1)).1, ((gt O ((gt e.2.1 D).1)).2.1 ++ [((gt e.2.1 D).2.1, (gt e.2.1 D).2.2, (-1))]), (gt O ((gt e.2.1 D).1)).2.2)) ((gt e.2.1 D).2.1)).2.1, ((gt (O.set ((gt e.2.1 D).1).toNat ((gt O ((gt e.2.1 D).1)).1, ((gt O ((gt e.2.1 D).1)).2.1 ++ [((gt e.2.1 D).2.1, (gt e.2.1 D).2.2, (-1))]), (gt O ((gt e.2.1 D).1)).2.2)) ((gt e.2.1 D).2.1)).2.2 ++ [((gt e.2.1 D).1, (gt e.2.1 D).2.2, (-1))]))) bx [] := bg
    have d3 := cL.grow3 (Inn.trans ir_ (Nat.le_refl _) b9) (Inn.trans (Inn.trans ir_ (Nat.le_refl _) a2) (Nat.le_refl _) bE) av.n
    refine fk_ dy (Zap (by kernel_rfl) (Zap (by kernel_rfl) (ZL))) ?_
    refine ZK ?_
    refine c5 _ _ (g_' ?_)
    obtain ⟨cJ, dJ⟩ := Zb dI
    refine w_' ((D + 1)) (Zo (by have := cJ; omega)) (qs_ 1 (Za ?_))
    obtain rfl := oi_ dJ
    exact c3 df _ _ lt_ ⟨(D + 1), ((O.set ((gt e.2.1 D).1).toNat ((gt O ((gt e.2.1 D).1)).1, ((gt O ((gt e.2.1 D).1)).2.1 ++ [((gt e.2.1 D).2.1, (gt e.2.1 D).2.2, (-1))]), (gt O ((gt e.2.1 D).1)).2.2)).set ((gt e.2.1 D).2.1).toNat ((gt (O.set ((gt e.2.1 D).1).toNat ((gt O ((gt e.2.1 D).1)).1, ((gt O ((gt e.2.1 D).1)).2.1 ++ [((gt e.2.1 D).2.1, (gt e.2.1 D).2.2, (-1))]), (gt O ((gt e.2.1 D).1)).2.2)) ((gt e.2.1 D).2.1)).1, (gt (O.set ((gt e.2.1 D).1).toNat ((gt O ((gt e.2.1 D).1)).1, ((gt O ((gt e.2.1 D).1)).2.1 ++ [((gt e.2.1 D).2.1, (gt e.2.1 D).2.2, (-1))]), (gt O ((gt e.2.1 D).1)).2.2)) ((gt e.2.1 D).2.1)).2.1, ((gt (O.set ((gt e.2.1 D).1).toNat ((gt O ((gt e.2.1 D).1)).1, ((gt O ((gt e.2.1 D).1)).2.1 ++ [((gt e.2.1 D).2.1, (gt e.2.1 D).2.2, (-1))]), (gt O ((gt e.2.1 D).1)).2.2)) ((gt e.2.1 D).2.1)).2.2 ++ [((gt e.2.1 D).1, (gt e.2.1 D).2.2, (-1))]))), bx, bL, ha_, (fs_ Z.wf (fs_ Z.wf ((fs_ Z.wf (fs_ Z.wf ((fs_ Z.wf ((fs_ Z.wf (fr_ Z.wf) ae ir_).extR ar) ak (aQ.fresh ae.n)).extR ac) al (Inn.trans (Inn.trans ir_ (Nat.le_refl _) aq) ao a1)) au (Inn.trans (Inn.trans ir_ (Nat.le_refl _) aq) ao aZ)).extR am) av (Inn.trans (Inn.trans (Inn.trans ir_ (Nat.le_refl _) aq) ao aJ) aX a2)) cA (Inn.trans (Inn.trans (Inn.trans ir_ (Nat.le_refl _) aq) ao aJ) aX b9)), bg, (Inn.trans (Inn.trans (Inn.trans ir_ (Nat.le_refl _) aq) ao aJ) aX d3)⟩
   have dK := Zi aD aE
   refine ZH (Zj (Zj (ZT ?_)))
   obtain rfl := oi_ dK
   obtain rfl := Zv bL
   exact dd _ _ ⟨aC, ha_, (fs_ Z.wf (fr_ Z.wf) ae ir_), aV, (Inn.trans ir_ (Nat.le_refl _) aq)⟩
  obtain ⟨aP, bG, bv, de, bN⟩ := hM
  obtain ⟨β, rfl⟩ := Zk bG
  clear bG
  refine db _ _ (sn_ ?_)
  refine Zh ?_
  refine br_ [pt_ aj 0, .nilIface] ?_
  have dp := (t_ ad.n an.n)
  have bS := (t_ (t_ (t_ ad.n an.n) af.n) ag.n)
  have bu := (be.djn ah.lt)
  have d0 := (ai.frS bv (Dj.symm bu))
  have dq := (t_ (t_ (t_ (t_ (t_ ad.n an.n) af.n) ag.n) aw.n) Z.n)
  have dr := (t_ (t_ (t_ (t_ ad.n an.n) af.n) ag.n) aw.n)
  have cz := (bN.dj (Dj.symm bu) ai.ltF)
  obtain rfl := oi_ dP
  exact (Zko ⟨(.slice U Y V), aP, aj, rfl, (fs_ ap (((fs_ ap ((fs_ ap ((f0_ ap).extR ad) an in_).extR af) ag (aR.fresh dp)).extR aw).extR Z) bv (bf.fresh bS)), de, d0, (Inn.trans (bf.fresh bS) dq bN), (be.fresh dr), cz⟩)
 have dL := Zi bd bV
 refine l_' (.bool true) (Zbl Tryz.prog .neq 39 (.tmp 14) (.const .nilIface) (.iface bi bo) .nilIface) (ZcT (by kernel_rfl)) (Za (bO _ _ ?_))
 refine wb_ true (fun _ => ?_) fun h => by cases h
 refine sn_ ?_
 refine Zh (Zf ?_)
 refine br_ [.pointer none, .iface bi bo] ?_
 have dt := (t_ ad.n an.n)
 obtain rfl := oi_ dL
 exact (Zkr ⟨(.iface bi bo), cD, rfl, (fs_ ap ((fs_ ap ((f0_ ap).extR ad) an in_).extR af) ag (aR.fresh dt)), b6, (c0.fresh ad.n)⟩)
theorem ZZ {H : AH} {ab : Nat} {D : Value} {ag : Fp} {U : List (Bool × List (Int × Int × Int) × List (Int × Int × Int))} {ad : Int} {ae : Int} {e : Int} {r : Bool}
    (ap : WF H) (V : Nd Zc 3 H D U ag []) (ac : Row H ab [D, i_ ad, i_ ae]) (aa : ZF U ad ae e = some r) :
    ACalls Tryz.prog 34 #[pt_ ab 0, i_ e] H fun v H' => v = .bool r /\ H = H' := by
 refine ab_ Tryz.func34 ?_
 unfold ZF at aa
 refine sn_ (sq_ fun k2 => g_' (qs_ 4 ?_))
 refine sb_ (e ≥ 0) (fun Z => ?_) fun Z => ?_
 ·have af := Ze Z aa
  refine qs_ 6 (lr_ 102 0 (D) ac (V.ln_ 102 ?_))
  refine sb_ (e < (U.length : Int)) (fun O => ?_) fun O => ?_
  ·have ak := Ze O af
   refine qs_ 5 (lr_ 102 0 (D) ac (qs_ 1 ?_))
   obtain ⟨Y, al⟩ := Zb ak
   refine V.ix_ 102 Y O (l_' (elp D 3 e.toNat 0) (Zy Tryz.prog 108 (elp D 3 e.toNat 0) 0) (Nd.fldq (d := 0) V Y O (by kernel_rfl)) ?_)
   obtain ⟨ao, an, ah, am⟩ := Nd.at V Y O
   refine l_' (.bool ((gt U e).1)) (aL_ 4 (elp D 3 e.toNat 0) H) (ah _ _ _ _ (by kernel_rfl)) (qs_ 3 (Za (k2 _ _ ?_)))
   refine Zh ?_
   refine br_ [.bool (!(gt U e).1)] ?_
   obtain rfl := oi_ al
   exact ⟨rfl, rfl⟩
  have ai := Zi O af
  refine qs_ 13 (Za (k2 _ _ ?_))
  refine Zh ?_
  refine br_ [.bool false] ?_
  obtain rfl := oi_ ai
  exact ⟨rfl, rfl⟩
 have aj := Zi Z aa
 refine qs_ 22 (Za (k2 _ _ ?_))
 refine Zh ?_
 refine br_ [.bool false] ?_
 obtain rfl := oi_ aj
 exact ⟨rfl, rfl⟩
theorem Zid {H : AH} {D : Nat} {U : Value} {ad : Fp} {Y : List (Bool × List (Int × Int × Int) × List (Int × Int × Int))} {Z : Int} {aa : Int} {ac : Int} {r : Er}
    (am : WF H) (af : Nd Zc 3 H U Y ad []) (ae : Row H D [U, i_ Z, i_ aa]) (V : ZdY Y Z aa ac = some r) :
    ACalls Tryz.prog 36 #[pt_ D 0, i_ ac] H fun v H' => ∃ (v3 : Value) (O : Fp), v = v3 /\ H = H' /\ Ev 48 82 H' v3 r O /\ Inn [] H O := by
 refine ab_ Tryz.func36 ?_
 unfold ZdY at V
 refine sn_ (sq_ fun ai => sn_ ?_)
 refine wb_ false (fun h => by cases h) fun _ => ?_
 refine Zg (ai _ _ (sq_ fun aj => sq_ fun ah => g_' (qs_ 2 ?_)))
 obtain ⟨an, ag, ab⟩ := bs_ V
 refine ck_ (ZZ am af ae ag) ?_
 rintro _ _ ⟨rfl, rfl⟩
 refine qs_ 1 (Za (ah _ _ ?_))
 refine wb_ ((!an)) (fun e => ?_) fun e => ?_
 ·have ak := Ze e ab
  refine sn_ ?_
  refine Zh (Zf ?_)
  refine br_ [.iface 48 (i_ 7)] ?_
  obtain rfl := oi_ ak
  exact ⟨(.iface 48 (i_ 7)), [], rfl, rfl, Ev.no, in_⟩
 have al := ZM e ab
 refine Zg (aj _ _ (sn_ ?_))
 refine Zh ?_
 refine br_ [.nilIface] ?_
 obtain rfl := oi_ al
 exact ⟨(.nilIface), [], rfl, rfl, Ev.nil, in_⟩
theorem ZeH {H : AH} {e : Int} {r : Int}
    (O : WF H) (D : Zcs e = some r) :
    ACalls Tryz.prog 63 #[i_ e] H fun v H' => v = i_ r /\ H = H' := by
 refine ab_ Tryz.func63 ?_
 unfold Zcs at D
 refine sn_ (sq_ fun k2 => g_' (qs_ 1 (l_' (i_ (max e 0)) (Zfr Tryz.prog [i_ e, i_ 0]) (Ze8 _ _) (l_' (i_ (min (max e 0) 1048576)) (ZgF Tryz.prog [i_ (max e 0), i_ 1048576]) (Zht _ _) (qs_ 1 (Za (k2 _ _ ?_)))))))
 refine Zh ?_
 refine br_ [i_ (min (max e 0) 1048576)] ?_
 obtain rfl := oi_ D
 exact ⟨rfl, rfl⟩
theorem Zhn {H : AH} {e : Int} {D : Int} {V : Int} {O : Int} {U : Int} {r : Int × Int}
    (ac : WF H) (ab : Zdo e D V O U = some r) :
    ACalls Tryz.prog 37 #[.agg #[i_ e, i_ D, i_ V, i_ O, i_ U]] H fun v H' => v = .tuple #[i_ r.1, i_ r.2] /\ FrS [] H H' := by
 refine ab_ Tryz.func37 ?_
 unfold Zdo at ab
 refine sq_ fun k1 => g_' ?_
 refine rl_ ac [i_ e, i_ D, i_ V, i_ O, i_ U] fun b2 aa Y ak Z => ?_
 refine qs_ 2 (Za (k1 _ _ (sn_ (sq_ fun af => ?_))))
 refine ZR [0, 1, 2, 4, 5, 6, 3, 7, 8, 9] (by kernel_rfl) ?_
 refine es_ 2 (mr_ 3 0 (i_ e) Z (es_ 2 ?_))
 refine Zcz (i_ D) (x := aL_ 3 (pt_ b2 1) aa) (by kernel_rfl) (Z.l_) ?_
 obtain ⟨ai, ad, ag⟩ := bs_ ab
 refine dk_ (ZeH Y.wf ad) ?_
 rintro _ _ ⟨rfl, rfl⟩
 refine ⟨ZaP (y := aL_ 3 (pt_ b2 1) aa) (by kernel_rfl) (Z.l_) (ZL), ?_⟩
 obtain ⟨aj, ae, ah⟩ := bs_ ag
 refine dk_ (ZeH Y.wf ae) ?_
 rintro _ _ ⟨rfl, rfl⟩
 refine ⟨Zap (by kernel_rfl) (ZL), ?_⟩
 refine es_ 2 ?_
 refine ZK ?_
 refine af _ _ ?_
 refine Zh ?_
 refine br_ [i_ ai, i_ aj] ?_
 obtain rfl := oi_ ah
 exact ⟨rfl, ((f0_ ac).extR Y)⟩
theorem ZfG {H : AH} {ab : Value} {ai : Fp} {s : List (Int × Int × Int)} {r : List (Int × Int × Int)}
    (D : WF H) (aa : Sq Zc 3 H ab s ai) (V : ZcV s = some r) :
    ACalls Tryz.prog 56 #[ab] H fun v H' => ∃ (ag : Value) (Z : Fp), v = ag /\ FrS [] H H' /\ Ow Zc 3 H' ag r Z /\ Inn [] H Z := by
 refine ab_ Tryz.func56 ?_
 unfold ZcV at V
 refine sn_ (sq_ fun am => sq_ fun af => g_' (qs_ 1 ?_))
 rcases Sq.nilOr aa with ⟨rfl, rfl⟩ | ⟨a9, ax, av, rfl⟩
 ·refine qs_ 1 (Za (af _ _ ?_))
  refine wb_ true (fun _ => ?_) fun h => by cases h
  refine sn_ ?_
  refine Zh (Zf ?_)
  refine br_ [.slice none 0 0] ?_
  have hn_ : some ([] : List (Int × Int × Int)) = some r := by simpa [G] using V
  obtain rfl := oi_ hn_
  exact ⟨(.slice none 0 0), [], rfl, (f0_ D), (Ow.nil (by decide)), in_⟩
 refine qs_ 1 (Za (af _ _ ?_))
 refine wb_ false (fun h => by cases h) fun _ => ?_
 refine Zg (am _ _ (sq_ fun al => g_' ?_))
 refine Zbo (enc := Zc) (sz := 3) D ([] : List (Int × Int × Int)) 0 (by decide) (fun _ _ => rfl) (fun _ _ => rfl) rfl (by kernel_rfl) fun az f15 aq e ac ad => ?_
 obtain ⟨au, ay, aw, rfl⟩ := ad.form
 refine qs_ 1 ?_
 obtain ⟨aj, ao⟩ := Zb V
 have ap := (aa.ext e)
 obtain ⟨aA, ar, f28, an, ah, ae, ak⟩ := Ow.append (P := Tryz.prog) 24 e.wf ad ap (fun _ _ => rfl) (at_ := #[92, 92]) rfl rfl (by kernel_rfl) (by kernel_rfl) (by decide) (by have := aj; first | omega | (simp only [List.length_cons, List.length_nil] at this ⊢; omega) | (simp at this ⊢; omega))
 obtain ⟨O, Y, U, rfl⟩ := ae.form
 refine ZaL (.slice O Y U) (by kernel_rfl) (an) ?_
 refine qs_ 1 (Za (al _ _ ?_))
 refine Zh ?_
 refine br_ [.slice O Y U] ?_
 obtain rfl := oi_ ao
 exact ⟨(.slice O Y U), f28, rfl, (fs_ D ((f0_ D).extR e) ah (ac.fresh (Nat.le_refl _))), ae, (Inn.trans (ac.fresh (Nat.le_refl _)) e.n ak)⟩
theorem Zcw {H : AH} {ab : Nat} {e : Value} {ae : Fp} {Z : List (Bool × List (Int × Int × Int) × List (Int × Int × Int))} {ak : Int} {al : Int} {D : Int} {r : List (Int × Int × Int)}
    (U : WF H) (V : Nd Zc 3 H e Z ae []) (af : Row H ab [e, i_ ak, i_ al]) (ag : Zag Z ak al D = some r) :
    ACalls Tryz.prog 32 #[pt_ ab 0, i_ D] H fun v H' => ∃ (an : Value) (ad : Fp), v = an /\ FrS [] H H' /\ Ow Zc 3 H' an r ad /\ Inn [] H ad := by
 refine ab_ Tryz.func32 ?_
 unfold Zag at ag
 refine sn_ (sq_ fun aA => sq_ fun aB => g_' (qs_ 2 ?_))
 obtain ⟨aI, aw, am⟩ := bs_ ag
 refine ck_ (ZZ U V af aw) ?_
 rintro _ _ ⟨rfl, rfl⟩
 refine qs_ 1 (Za (aB _ _ ?_))
 refine wb_ ((!aI)) (fun Y => ?_) fun Y => ?_
 ·have aD := Ze Y am
  refine sn_ ?_
  refine Zh (Zf ?_)
  refine br_ [.slice none 0 0] ?_
  obtain rfl := oi_ aD
  exact ⟨(.slice none 0 0), [], rfl, (f0_ U), (Ow.nil (by decide)), in_⟩
 have aE := ZM Y am
 refine Zg (aA _ _ (sq_ fun az => g_' (qs_ 3 (lr_ 102 0 (e) af (qs_ 1 ?_)))))
 obtain ⟨O, aF⟩ := Zb aE
 refine V.ix_ 102 O.1 O.2 (l_' (elp e 3 D.toNat 1) (Zy Tryz.prog 108 (elp e 3 D.toNat 0) 1) (Nd.fldq (d := 1) V O.1 O.2 (by kernel_rfl)) ?_)
 obtain ⟨aH, aL, av, au⟩ := Nd.at V O.1 O.2
 have ah : KdS Zc 3 H aH ((gt Z D).2.1) ae e 3 D.toNat 1 := au false (by simp)
 obtain ⟨ao, aC, ap, rfl⟩ := ah.sq.form
 refine l_' (.slice ao aC ap) (aL_ 92 (elp e 3 D.toNat 1) H) (av _ _ _ _ (by kernel_rfl)) ?_
 obtain ⟨aM, ax, aG⟩ := bs_ aF
 refine ck_ (ZfG U ah.sq ax) ?_
 rintro aK aJ ⟨_, ar, rfl, aq, ai, ay⟩
 obtain ⟨aa, aj, ac, rfl⟩ := ai.form
 refine qs_ 1 (Za (az _ _ ?_))
 refine Zh ?_
 refine br_ [.slice aa aj ac] ?_
 obtain rfl := oi_ aG
 exact ⟨(.slice aa aj ac), ar, rfl, (fs_ U (f0_ U) aq in_), ai, (ay.fresh (Nat.le_refl _))⟩
theorem Zem {H : AH} {ab : Nat} {e : Value} {ae : Fp} {Z : List (Bool × List (Int × Int × Int) × List (Int × Int × Int))} {ak : Int} {al : Int} {D : Int} {r : List (Int × Int × Int)}
    (U : WF H) (V : Nd Zc 3 H e Z ae []) (af : Row H ab [e, i_ ak, i_ al]) (ag : Za2 Z ak al D = some r) :
    ACalls Tryz.prog 38 #[pt_ ab 0, i_ D] H fun v H' => ∃ (an : Value) (ad : Fp), v = an /\ FrS [] H H' /\ Ow Zc 3 H' an r ad /\ Inn [] H ad := by
 refine ab_ Tryz.func38 ?_
 unfold Za2 at ag
 refine sn_ (sq_ fun aA => sq_ fun aB => g_' (qs_ 2 ?_))
 obtain ⟨aI, aw, am⟩ := bs_ ag
 refine ck_ (ZZ U V af aw) ?_
 rintro _ _ ⟨rfl, rfl⟩
 refine qs_ 1 (Za (aB _ _ ?_))
 refine wb_ ((!aI)) (fun Y => ?_) fun Y => ?_
 ·have aD := Ze Y am
  refine sn_ ?_
  refine Zh (Zf ?_)
  refine br_ [.slice none 0 0] ?_
  obtain rfl := oi_ aD
  exact ⟨(.slice none 0 0), [], rfl, (f0_ U), (Ow.nil (by decide)), in_⟩
 have aE := ZM Y am
 refine Zg (aA _ _ (sq_ fun az => g_' (qs_ 3 (lr_ 102 0 (e) af (qs_ 1 ?_)))))
 obtain ⟨O, aF⟩ := Zb aE
 refine V.ix_ 102 O.1 O.2 (l_' (elp e 3 D.toNat 2) (Zy Tryz.prog 108 (elp e 3 D.toNat 0) 2) (Nd.fldq (d := 2) V O.1 O.2 (by kernel_rfl)) ?_)
 obtain ⟨aL, aH, av, au⟩ := Nd.at V O.1 O.2
 have ah : KdS Zc 3 H aH ((gt Z D).2.2) ae e 3 D.toNat 2 := au true (by simp)
 obtain ⟨ao, aC, ap, rfl⟩ := ah.sq.form
 refine l_' (.slice ao aC ap) (aL_ 92 (elp e 3 D.toNat 2) H) (av _ _ _ _ (by kernel_rfl)) ?_
 obtain ⟨aM, ax, aG⟩ := bs_ aF
 refine ck_ (ZfG U ah.sq ax) ?_
 rintro aK aJ ⟨_, ar, rfl, aq, ai, ay⟩
 obtain ⟨aa, aj, ac, rfl⟩ := ai.form
 refine qs_ 1 (Za (az _ _ ?_))
 refine Zh ?_
 refine br_ [.slice aa aj ac] ?_
 obtain rfl := oi_ aG
 exact ⟨(.slice aa aj ac), ar, rfl, (fs_ U (f0_ U) aq in_), ai, (ay.fresh (Nat.le_refl _))⟩
theorem Zf1 {H : AH} {D : Nat} {U : Nat} {am : Value} {aA : Fp} {ah : Value} {Z : Fp} {V : Nat} {ar : List (Bool × List (Int × Int × Int) × List (Int × Int × Int))} {au : Int} {av : Int} {ab : Int} {ac : Int} {aw : List (Int × Int)} {ax : Int -> Option (Int × Int × Int)} {ae : Int} {ai : Int} {r : List (Int × Int)}
    (ad : WF H) (aR : Nd Zc 3 H am ar aA []) (aQ : Row H U [am, i_ au, i_ av]) (aC : Ow ZB 2 H ah aw Z) (aS : Ms .i64 ZU H V ax) (ag : Row H D [pt_ U 0, i_ ab, i_ ac, ah, .map (some V)]) (aj : Dj Z [D]) (aq : ZcN ar au av ab ac aw ax ae ai = some r) :
    ACalls Tryz.prog 157 #[pt_ D 3, .iface 223 (.agg #[.int .u64 ae, i_ ai])] H fun v H' => ∃ (ay : Value) (al : Fp), v = .tuple #[] /\ FrS ([D] ++ Z) H H' /\ Ow ZB 2 H' ay r al /\ Row H' D [pt_ U 0, i_ ab, i_ ac, ay, .map (some V)] /\ Inn Z H al := by
 refine ab_ Tryz.func157 ?_
 unfold ZcN at aq
 refine ZR [0, 1, 2, 3, 4, 5, 6, 7, 8, 9] (by kernel_rfl) ?_
 refine es_ 3 (mr_ 185 3 (ah) ag (es_ 2 ?_))
 refine Zhx (enc := ZB) (sz := 2) ad [(ae, ai)] 1 (by decide) (fun _ _ => rfl) (fun _ _ => rfl) rfl (by kernel_rfl) fun aW aP aK e aT ao => ?_
 obtain ⟨aN, aU, aO, rfl⟩ := ao.form
 have aH := (aC.ext e)
 obtain ⟨aB, aF⟩ := Zb aq
 obtain ⟨aV, aL, f23, aD, af, ap, an⟩ := Ow.append (P := Tryz.prog) 16 e.wf aH ao.sq (fun _ _ => rfl) (at_ := #[185, 185]) rfl rfl (by kernel_rfl) (by kernel_rfl) (by decide) (by have := aB; first | omega | (simp only [List.length_cons, List.length_nil] at this ⊢; omega) | (simp at this ⊢; omega))
 obtain ⟨O, aa, Y, rfl⟩ := ap.form
 refine Zgz (.slice O aa Y) (by kernel_rfl) (aD) (ZL) ?_
 refine es_ 1 ?_
 have aI := ((ag.ext e).frS af aj)
 obtain ⟨aM, aE, ak, aG⟩ := rb_ 185 3 af.wf aI (.slice O aa Y) [pt_ U 0, i_ ab, i_ ac, .slice O aa Y, .map (some V)]
 refine fk_ aE (ZL) ?_
 refine ZK ?_
 refine Zfj (vs := []) (rfl) ?_
 have az := (an.dj aj (ag.ltF.le e.n))
 have aJ := (ap.fr ak (Dj.symm az))
 obtain rfl := oi_ aF
 exact ⟨(.slice O aa Y), f23, rfl, (fs_ ad (fs_ ad ((fr_ ad).extR e) af (Inn.right ir_)) ak Inn.left), aJ, aG, (Inn.trans ir_ e.n an)⟩
theorem Zes {H : AH} {e : Value} {O : Fp} {q : List (Int × Int)} {r : Int}
    (V : WF H) (U : Sq ZB 2 H e q O) (D : Za9 q = some r) :
    ACalls Tryz.prog 153 #[e] H fun v H' => v = i_ r /\ H = H' := by
 refine ab_ Tryz.func153 ?_
 unfold Za9 at D
 refine sn_ (sq_ fun k2 => g_' (qs_ 1 (U.ln_ 185 (qs_ 1 (Za (k2 _ _ ?_))))))
 refine Zh ?_
 refine br_ [i_ (q.length : Int)] ?_
 obtain rfl := oi_ D
 exact ⟨rfl, rfl⟩
theorem Zdu {H : AH} {U : Value} {ac : Fp} {q : List (Int × Int)} {i : Int} {j : Int} {r : Bool}
    (ah : WF H) (O : Sq ZB 2 H U q ac) (Z : Zal q i j = some r) :
    ACalls Tryz.prog 154 #[U, i_ i, i_ j] H fun v H' => v = .bool r /\ H = H' := by
 refine ab_ Tryz.func154 ?_
 unfold Zal at Z
 refine sn_ (sq_ fun k2 => ?_)
 refine ZR [0, 1, 2, 3, 4, 5, 6, 7, 8, 9, 10, 11, 12, 13, 14, 15, 16, 17, 18, 19, 20, 21, 22, 23, 24, 25, 26, 27, 28, 29, 30, 31, 32, 33, 34, 35, 36, 37] (by kernel_rfl) ?_
 refine es_ 2 ?_
 obtain ⟨e, af⟩ := Zb Z
 refine O.mx_ 185 e.1 e.2 (m_' (elp U 2 i.toNat 0) (Zy Tryz.prog 223 (elp U 2 i.toNat 0) 0) (Sq.fldq (d := 0) O e.1 e.2 (by kernel_rfl)) (me_ 61 0 (.int .u64 ((gt q i).1)) O e.1 e.2 (es_ 2 ?_)))
 obtain ⟨D, aa⟩ := Zb af
 refine O.mx_ 185 D.1 D.2 (m_' (elp U 2 j.toNat 0) (Zy Tryz.prog 223 (elp U 2 j.toNat 0) 0) (Sq.fldq (d := 0) O D.1 D.2 (by kernel_rfl)) (me_ 61 0 (.int .u64 ((gt q j).1)) O D.1 D.2 ?_))
 refine db_ (((gt q i).1) < ((gt q j).1)) (fun Y => ?_) fun Y => ?_
 ·have ag := Ze Y aa
  refine es_ 27 ?_
  refine ZK ?_
  refine k2 _ _ ?_
  refine Zh ?_
  refine br_ [.bool true] ?_
  obtain rfl := oi_ ag
  exact ⟨rfl, rfl⟩
 have ab := Zi Y aa
 refine es_ 3 (O.mx_ 185 e.1 e.2 (m_' (elp U 2 i.toNat 0) (Zy Tryz.prog 223 (elp U 2 i.toNat 0) 0) (Sq.fldq (d := 0) O e.1 e.2 (by kernel_rfl)) (me_ 61 0 (.int .u64 ((gt q i).1)) O e.1 e.2 (es_ 2 (O.mx_ 185 D.1 D.2 (m_' (elp U 2 j.toNat 0) (Zy Tryz.prog 223 (elp U 2 j.toNat 0) 0) (Sq.fldq (d := 0) O D.1 D.2 (by kernel_rfl)) (me_ 61 0 (.int .u64 ((gt q j).1)) O D.1 D.2 ?_)))))))
 refine db_ (((gt q i).1) = ((gt q j).1)) (fun V => ?_) fun V => ?_
 ·have ad := Ze V ab
  refine es_ 3 (O.mx_ 185 e.1 e.2 (m_' (elp U 2 i.toNat 1) (Zy Tryz.prog 223 (elp U 2 i.toNat 0) 1) (Sq.fldq (d := 1) O e.1 e.2 (by kernel_rfl)) (me_ 3 1 (i_ ((gt q i).2)) O e.1 e.2 (es_ 2 (O.mx_ 185 D.1 D.2 (m_' (elp U 2 j.toNat 1) (Zy Tryz.prog 223 (elp U 2 j.toNat 0) 1) (Sq.fldq (d := 1) O D.1 D.2 (by kernel_rfl)) (me_ 3 1 (i_ ((gt q j).2)) O D.1 D.2 (es_ 4 ?_))))))))
  refine ZK ?_
  refine k2 _ _ ?_
  refine Zh ?_
  refine br_ [.bool (decide (((gt q i).2) < ((gt q j).2)))] ?_
  obtain rfl := oi_ ad
  exact ⟨rfl, rfl⟩
 have ae := Zi V ab
 refine es_ 15 ?_
 refine ZK ?_
 refine k2 _ _ ?_
 refine Zh ?_
 refine br_ [.bool false] ?_
 obtain rfl := oi_ ae
 exact ⟨rfl, rfl⟩
theorem Zdq {H : AH} {Y : Value} {V : Fp} {q : List (Int × Int)} {i : Int} {j : Int} {r : List (Int × Int)}
    (U : WF H) (O : Ow ZB 2 H Y q V) (ac : Zaj q i j = some r) :
    ACalls Tryz.prog 155 #[Y, i_ i, i_ j] H fun v H' => v = .tuple #[] /\ FrS V H H' /\ Ow ZB 2 H' Y r V := by
 refine ab_ Tryz.func155 ?_
 unfold Zaj at ac
 refine ZR [0, 1, 2, 3, 4, 5, 6, 7, 8, 9, 10, 11, 12, 13, 14, 15] (by kernel_rfl) ?_
 refine es_ 6 ?_
 obtain ⟨D, ai⟩ := Zb ac
 refine O.sq.mx_ 185 D.1 D.2 (me_ 223 0 (.agg #[.int .u64 ((gt q j).1), i_ ((gt q j).2)]) O.sq D.1 D.2 (es_ 2 ?_))
 obtain ⟨e, aj⟩ := Zb ai
 refine O.sq.mx_ 185 e.1 e.2 (me_ 223 0 (.agg #[.int .u64 ((gt q i).1), i_ ((gt q i).2)]) O.sq e.1 e.2 (O.sq.mx_ 185 e.1 e.2 ?_))
 obtain ⟨al, ag, Z, ab⟩ := Ow.store (P := Tryz.prog) (t := 223) (off := 0) U O e.1 e.2 (.agg #[.int .u64 ((gt q j).1), i_ ((gt q j).2)]) [.int .u64 ((gt q j).1), i_ ((gt q j).2)] (by kernel_rfl) (by kernel_rfl) rfl ((gt q j).1, (gt q j).2) (Nat.le_of_ble_eq_true rfl) (by kernel_rfl)
 refine fk_ ag (ZL) ?_
 obtain ⟨aa, ah⟩ := Zb aj
 refine ab.sq.mx_ 185 D.1 aa ?_
 obtain ⟨ak, af, ad, ae⟩ := Ow.store (P := Tryz.prog) (t := 223) (off := 0) Z.wf ab D.1 aa (.agg #[.int .u64 ((gt q i).1), i_ ((gt q i).2)]) [.int .u64 ((gt q i).1), i_ ((gt q i).2)] (by kernel_rfl) (by kernel_rfl) rfl ((gt q i).1, (gt q i).2) (Nat.le_of_ble_eq_true rfl) (by kernel_rfl)
 refine fk_ af (ZL) ?_
 refine ZK ?_
 refine Zfj (vs := []) (rfl) ?_
 obtain rfl := oi_ ah
 exact ⟨rfl, (fs_ U (fs_ U (fr_ U) Z ir_) ad ir_), ae⟩
theorem Zgj {H : AH} {V : Nat} {ai : Nat} {au : Value} {aI : Fp} {D : Value} {O : Fp} {aj : Nat} {al : List (Bool × List (Int × Int × Int) × List (Int × Int × Int))} {am : Int} {an : Int} {ao : Int} {ap : Int} {af : List (Int × Int)} {aq : Int -> Option (Int × Int × Int)} {j : Int} {r : List (Int × Int)}
    (U : WF H) (bk : Nd Zc 3 H au al aI []) (bj : Row H ai [au, i_ am, i_ an]) (aL : Ow ZB 2 H D af O) (bl : Ms .i64 ZU H aj aq) (ar : Row H V [pt_ ai 0, i_ ao, i_ ap, D, .map (some aj)]) (ak : Dj O [V]) (az : Zb6 al am an ao ap af aq j = some r) :
    ACalls Tryz.prog 114 #[.iface 221 (pt_ V 3), i_ j] H fun v H' => v = .tuple #[] /\ FrS O H H' /\ Ow ZB 2 H' D r O := by
 refine ab_ Tryz.func114 ?_
 unfold Zb6 at az
 obtain ⟨aD, aO, ba⟩ := bs_ az
 refine ZC (fun α ac => Has α [] /\ FrS O H ac /\ Ow ZB 2 ac D aD O) (fun _ aR => ?_) (fun α ac hM => ?_)
 ·refine Zl ?_
  obtain ⟨aC, aN⟩ := Zt.1 aO
  refine ZI (fun n α Z => ∃ (aa : List (Int × Int)), ∃ (e : Int), ZO (fun zz_ => Zbc zz_.1 zz_.2) n (aa, e) = some aD /\ Has α [(0, .iface 221 (pt_ V 3)), (1, i_ e)] /\ FrS O H Z /\ Ow ZB 2 Z D aa O) aC ⟨af, j, aN, ha_, (fr_ U), aL⟩ ?_
  rintro aC α Z ⟨aa, e, aM, aw, Y, ag⟩ bi aS
  obtain ⟨aZ, bg, rfl, ab, ay⟩ := Zx aM
  obtain ⟨β, rfl⟩ := Zk aw
  clear aw
  replace ab : Zbc aa e = some bg := ab
  unfold Zbc at ab
  refine Zl (sq_ fun aT => g_' (qs_ 1 ?_))
  obtain ⟨aJ, a1⟩ := Zb ab
  refine w_' ((e - 1)) (Zo aJ) ?_
  obtain ⟨aK, a2⟩ := Zb a1
  refine w_' ((Int.tdiv (e - 1) 2)) (Zo aK) (qs_ 1 (Za (aT _ _ (sq_ fun aU => sq_ fun aV => ?_))))
  obtain ⟨aE, aA, aF⟩ := bs_ a2
  refine ZC (fun α ah => Has α [(0, .iface 221 (pt_ V 3)), (1, i_ e), (4, i_ (Int.tdiv (e - 1) 2)), (17, .bool aE)] /\ Z = ah) (fun _ aB => ?_) (fun α ah hM => ?_)
  ·refine g_' (qs_ 2 ?_)
   refine sb_ ((Int.tdiv (e - 1) 2) = e) (fun ad => ?_) fun ad => ?_
   ·have a6 := Ze ad aA
    refine qs_ 7 (Za ?_)
    obtain rfl := oi_ a6
    exact aB _ _ ⟨ha_, rfl⟩
   have a7 := Zi ad aA
   refine qs_ 4 ?_
   obtain ⟨bm, aP, a8⟩ := bs_ a7
   have bd := (ar.frS Y ak)
   refine ZgN 154 185 ⟨V, 3, none⟩ #[i_ e, i_ (Int.tdiv (e - 1) 2)] (D) #[D, i_ e, i_ (Int.tdiv (e - 1) 2)] (by kernel_rfl) (by kernel_rfl) (bd.l_) (Zdu Y.wf ag.sq aP) ?_
   rintro _ _ ⟨rfl, rfl⟩
   refine qs_ 2 (Za ?_)
   obtain rfl := oi_ a8
   exact aB _ _ ⟨ha_, rfl⟩
  obtain ⟨ax, rfl⟩ := hM
  obtain ⟨β, rfl⟩ := Zk ax
  clear ax
  refine aV _ _ ?_
  refine wb_ (aE) (fun ae => ?_) fun ae => ?_
  ·have a_ := Ze ae aF
   refine ZH (Zj (Zi4 (by decide) (Zj (ZT ?_))))
   obtain rfl := oi_ a_
   obtain rfl := Zv ay
   exact aR _ _ ⟨trivial, (fs_ U (fr_ U) Y ir_), ag⟩
  have bb := ZM ae aF
  refine Zg (aU _ _ (sq_ fun aW => g_' (qs_ 3 ?_)))
  obtain ⟨bf, aQ, bc⟩ := bs_ bb
  have be := (ar.frS Y ak)
  refine ZgN 155 185 ⟨V, 3, none⟩ #[i_ (Int.tdiv (e - 1) 2), i_ e] (D) #[D, i_ (Int.tdiv (e - 1) 2), i_ e] (by kernel_rfl) (by kernel_rfl) (be.l_) (Zdq Y.wf ag aQ) ?_
  rintro _ bh ⟨rfl, aG, aX⟩
  refine Za (aW _ _ (g_' (qs_ 2 (Za ?_))))
  obtain rfl := oi_ bc
  exact aS aZ _ _ lt_ ⟨bf, (Int.tdiv (e - 1) 2), ay, ha_, (fs_ U (fs_ U (fr_ U) Y ir_) aG ir_), aX⟩
 obtain ⟨av, aH, aY⟩ := hM
 obtain ⟨β, rfl⟩ := Zk av
 clear av
 refine Zfj (vs := []) (rfl) ?_
 obtain rfl := oi_ ba
 exact ⟨rfl, (fs_ U (fr_ U) aH ir_), aY⟩
theorem ZfP {H : AH} {e : Nat} {U : Nat} {ay : Value} {ab : Fp} {az : Value} {D : Fp} {V : Nat} {an : List (Bool × List (Int × Int × Int) × List (Int × Int × Int))} {ao : Int} {ap : Int} {ac : Int} {ad : Int} {aq : List (Int × Int)} {ar : Int -> Option (Int × Int × Int)} {aj : Int} {aB : Int} {r : List (Int × Int)}
    (Y : WF H) (aw : Nd Zc 3 H ay an ab []) (av : Row H U [ay, i_ ao, i_ ap]) (aL : Ow ZB 2 H az aq D) (ax : Ms .i64 ZU H V ar) (au : Row H e [pt_ U 0, i_ ac, i_ ad, az, .map (some V)]) (ak : Dj D [e]) (aI : Dj D ab) (aF : Dj [e] ab) (aG : Dj D [U]) (aD : Dj [e] [U]) (aH : Dj D [V]) (aE : Dj [e] [V]) (aA : Zbw an ao ap ac ad aq ar aj aB = some r) :
    ACalls Tryz.prog 110 #[.iface 221 (pt_ e 3), .iface 223 (.agg #[.int .u64 aj, i_ aB])] H fun v H' => ∃ (aC : Value) (am : Fp), v = .tuple #[] /\ FrS ([e] ++ D) H H' /\ Ow ZB 2 H' aC r am /\ Row H' e [pt_ U 0, i_ ac, i_ ad, aC, .map (some V)] /\ Inn D H am := by
 refine ab_ Tryz.func110 ?_
 unfold Zbw at aA
 refine sq_ fun aP => g_' (qs_ 2 ?_)
 obtain ⟨a8, aM, aR⟩ := bs_ aA
 refine ck_ (Zf1 Y aw av aL ax au ak aM) ?_
 rintro _ a1 ⟨a6, aJ, rfl, O, af, ag, ae⟩
 obtain ⟨Z, ah, aa, rfl⟩ := af.form
 refine Za (aP _ _ (g_' (qs_ 2 ?_)))
 obtain ⟨aZ, aN, aS⟩ := bs_ aR
 refine ZgN 153 185 ⟨e, 3, none⟩ #[] (.slice Z ah aa) #[.slice Z ah aa] (by kernel_rfl) (by kernel_rfl) (ag.l_) (Zes O.wf af.sq aN) ?_
 rintro _ _ ⟨rfl, rfl⟩
 obtain ⟨aK, aT⟩ := Zb aS
 refine w_' ((aZ - 1)) (Zo aK) ?_
 have aV := (aw.fr O (Dj.app aF aI))
 have aW := (av.frS O (Dj.app aD aG))
 have aX := (ax.frS O (Dj.app aE aH))
 have ai := (ae.dj ak au.ltF)
 obtain ⟨a7, aO, aU⟩ := bs_ aT
 refine ck_ (Zgj O.wf aV aW af aX ag ai aO) ?_
 rintro _ a2 ⟨rfl, al, aQ⟩
 refine Za ?_
 refine Zfj (vs := []) (rfl) ?_
 have aY := (ag.frS al ai)
 obtain rfl := oi_ aU
 exact ⟨(.slice Z ah aa), aJ, rfl, (fs_ Y (fs_ Y (fr_ Y) O ir_) al (Inn.trans (Inn.right ir_) (Nat.le_refl _) ae)), aQ, aY, (Inn.trans ir_ (Nat.le_refl _) ae)⟩
theorem ZeM {H : AH} {D : Nat} {Z : Nat} {ak : Value} {ab : Fp} {al : Value} {Y : Fp} {e : Nat} {ar : List (Bool × List (Int × Int × Int) × List (Int × Int × Int))} {au : Int} {av : Int} {af : Int} {ag : Int} {aw : List (Int × Int)} {ax : Int -> Option (Int × Int × Int)} {ah : Int} {V : Int} {hops : Int} {aa : Int} {r : (Int -> Option (Int × Int × Int)) × List (Int × Int)}
    (ac : WF H) (aN : Nd Zc 3 H ak ar ab []) (aM : Row H Z [ak, i_ au, i_ av]) (aO : Ow ZB 2 H al aw Y) (aj : Ms .i64 ZU H e ax) (aL : Row H D [pt_ Z 0, i_ af, i_ ag, al, .map (some e)]) (aD : Dj [e] ab) (aC : Dj [e] [Z]) (ae : Dj [e] Y) (ad : Dj [e] [D]) (aG : Dj Y [D]) (aI : Dj Y ab) (aF : Dj [D] ab) (aH : Dj Y [Z]) (aE : Dj [D] [Z]) (am : ZbL ar au av af ag aw ax ah V hops aa = some r) :
    ACalls Tryz.prog 100 #[pt_ D 0, i_ ah, .agg #[.int .u64 V, i_ hops, i_ aa]] H fun v H' => ∃ (aq : Value) (f6 : Fp), v = .tuple #[] /\ FrS ([D] ++ ([e] ++ Y)) H H' /\ Ms .i64 ZU H' e r.1 /\ Ow ZB 2 H' aq r.2 f6 /\ Row H' D [pt_ Z 0, i_ af, i_ ag, aq, .map (some e)] /\ Inn Y H f6 := by
 refine ab_ Tryz.func100 ?_
 unfold ZbL at am
 refine sq_ fun aS => g_' ?_
 refine rl_ ac [.int .u64 V, i_ hops, i_ aa] fun bd ba O aP ap => ?_
 refine Za (aS _ _ (sq_ fun aT => ?_))
 refine ZR [0, 1, 2, 3, 4, 5, 6] (by kernel_rfl) ?_
 refine es_ 3 ?_
 have ay := (aL.ext O)
 refine mr_ 183 4 (.map (some e)) ay (es_ 1 (mr_ 190 0 (.agg #[.int .u64 V, i_ hops, i_ aa]) ap ?_))
 have aZ := (aj.ext O)
 obtain ⟨bb, aX, aJ, ao⟩ := aZ.put (P := Tryz.prog) O.wf (t := 183) (zv := .agg #[.int .u64 0, i_ 0, i_ 0]) (val := .agg #[.int .u64 V, i_ hops, i_ aa]) (by kernel_rfl) ah (V, hops, aa) rfl
 have U := aJ.frS (W := [e]) (List.mem_singleton.2 rfl)
 refine fk_ aX (ZL) ?_
 refine ZK ?_
 refine aT _ _ ?_
 refine ZR [0, 1, 2, 3, 4, 5, 6, 7, 8, 9] (by kernel_rfl) ?_
 refine es_ 5 ?_
 have aB := (aP.djn aj.ltF)
 have a1 := (ap.frS U (Dj.symm aB))
 refine mr_ 61 0 (.int .u64 V) a1 (es_ 3 ?_)
 have a2 := ((aN.ext O).fr U aD)
 have a6 := ((aM.ext O).frS U aC)
 have a7 := ((aO.ext O).fr U ae)
 have a8 := (ay.frS U ad)
 obtain ⟨bf, aQ, aY⟩ := bs_ am
 refine dk_ (ZfP U.wf a2 a6 a7 ao a8 aG aI aF aH aE (Dj.symm ae) (Dj.symm ad) aQ) ?_
 rintro _ bc ⟨be, aK, rfl, ai, an, aU, aR⟩
 obtain ⟨az, aV, aA, rfl⟩ := an.form
 refine ⟨ZL, ?_⟩
 refine ZK ?_
 refine Zfj (vs := []) (rfl) ?_
 have a_ := (ao.frS ai (Dj.app (Dj.symm ad) (Dj.symm ae)))
 have aW := (t_ O.n U.n)
 obtain rfl := oi_ aY
 exact ⟨(.slice az aV aA), aK, rfl, (fs_ ac (fs_ ac ((fr_ ac).extR O) U (Inn.right Inn.left)) ai (Inn.app Inn.left (Inn.right (Inn.right ir_)))), a_, an, aU, (Inn.trans ir_ aW aR)⟩
theorem ZfU {H : AH} {O : Nat} {au : Nat} {aE : Value} {a1 : Fp} {D : Value} {aa : Fp} {av : Nat} {ax : List (Bool × List (Int × Int × Int) × List (Int × Int × Int))} {ay : Int} {az : Int} {aA : Int} {aB : Int} {an : List (Int × Int)} {aC : Int -> Option (Int × Int × Int)} {Y : Int} {U : Int} {r : Bool × List (Int × Int)}
    (V : WF H) (bT : Nd Zc 3 H aE ax a1 []) (bS : Row H au [aE, i_ ay, i_ az]) (a8 : Ow ZB 2 H D an aa) (bU : Ms .i64 ZU H av aC) (aD : Row H O [pt_ au 0, i_ aA, i_ aB, D, .map (some av)]) (aw : Dj aa [O]) (aK : ZbK ax ay az aA aB an aC Y U = some r) :
    ACalls Tryz.prog 115 #[.iface 221 (pt_ O 3), i_ Y, i_ U] H fun v H' => v = .bool r.1 /\ FrS aa H H' /\ Ow ZB 2 H' D r.2 aa := by
 refine ab_ Tryz.func115 ?_
 unfold ZbK at aK
 refine sn_ (sn_ (sq_ fun bk => ?_))
 obtain ⟨ag, bb, bI⟩ := bs_ aK
 refine ZC (fun α ah => Has α [(1, i_ Y), (7, i_ ag.1)] /\ FrS aa H ah /\ Ow ZB 2 ah D ag.2 aa) (fun _ aO => ?_) (fun α ah hM => ?_)
 ·refine Zl ?_
  obtain ⟨aS, ba⟩ := Zt.1 bb
  refine ZI (fun n α ab => ∃ (ae : List (Int × Int)), ∃ (e : Int), ZO (fun zz_ => ZaV U zz_.1 zz_.2) n (ae, e) = some ag /\ Has α [(0, .iface 221 (pt_ O 3)), (1, i_ Y), (2, i_ U), (7, i_ e)] /\ FrS aa H ab /\ Ow ZB 2 ab D ae aa) aS ⟨an, Y, ba, ha_, (fr_ V), a8⟩ ?_
  rintro aS α ab ⟨ae, e, a_, aG, Z, ad⟩ bR bf
  obtain ⟨bs, bP, rfl, af, ao⟩ := Zx a_
  obtain ⟨β, rfl⟩ := Zk aG
  clear aG
  replace af : ZaV U ae e = some bP := af
  unfold ZaV at af
  refine Zl (sq_ fun bg => g_' (qs_ 1 ?_))
  obtain ⟨a2, bt⟩ := Zb af
  refine w_' ((2 * e)) (Zo a2) ?_
  obtain ⟨a6, bu⟩ := Zb bt
  refine w_' (((2 * e) + 1)) (Zo a6) (qs_ 1 (Za (bg _ _ (sq_ fun bh => sq_ fun bi => ?_))))
  obtain ⟨aT, aL, aV⟩ := bs_ bu
  refine ZC (fun α ap => Has α [(0, .iface 221 (pt_ O 3)), (1, i_ Y), (2, i_ U), (7, i_ e), (8, i_ ((2 * e) + 1)), (21, .bool aT)] /\ ab = ap) (fun _ aP => ?_) (fun α ap hM => ?_)
  ·refine g_' (qs_ 2 ?_)
   refine sb_ (((2 * e) + 1) ≥ U) (fun ai => ?_) fun ai => ?_
   ·have bv := Ze ai aL
    refine qs_ 4 (Za ?_)
    obtain rfl := oi_ bv
    exact aP _ _ ⟨ha_, rfl⟩
   have bw := Zi ai aL
   refine qs_ 4 (Za ?_)
   obtain rfl := oi_ bw
   exact aP _ _ ⟨ha_, rfl⟩
  obtain ⟨aH, rfl⟩ := hM
  obtain ⟨β, rfl⟩ := Zk aH
  clear aH
  refine bi _ _ ?_
  refine wb_ (aT) (fun aj => ?_) fun aj => ?_
  ·have bx := Ze aj aV
   refine ZH (Zj (Zi4 (by decide) (Zj (ZT ?_))))
   obtain rfl := oi_ bx
   obtain rfl := Zv ao
   exact aO _ _ ⟨ha_, (fs_ V (fr_ V) Z ir_), ad⟩
  have bz := ZM aj aV
  refine Zg (bh _ _ (sn_ (sq_ fun bj => sq_ fun bl => g_' (qs_ 1 ?_))))
  obtain ⟨a7, bA⟩ := Zb bz
  refine w_' ((((2 * e) + 1) + 1)) (Zo a7) (qs_ 1 (Za (bl _ _ (sq_ fun bm => ?_))))
  obtain ⟨aU, aM, bB⟩ := bs_ bA
  refine ZC (fun α aq => Has α [(0, .iface 221 (pt_ O 3)), (1, i_ Y), (2, i_ U), (7, i_ e), (9, i_ ((2 * e) + 1)), (10, i_ (((2 * e) + 1) + 1)), (33, .bool aU)] /\ ab = aq) (fun _ aQ => ?_) (fun α aq hM => ?_)
  ·refine g_' (qs_ 2 ?_)
   refine sb_ ((((2 * e) + 1) + 1) < U) (fun ak => ?_) fun ak => ?_
   ·have bC := Ze ak aM
    refine qs_ 4 ?_
    obtain ⟨bV, bc, bD⟩ := bs_ bC
    have bM := (aD.frS Z aw)
    refine ZgN 154 185 ⟨O, 3, none⟩ #[i_ (((2 * e) + 1) + 1), i_ ((2 * e) + 1)] (D) #[D, i_ (((2 * e) + 1) + 1), i_ ((2 * e) + 1)] (by kernel_rfl) (by kernel_rfl) (bM.l_) (Zdu Z.wf ad.sq bc) ?_
    rintro _ _ ⟨rfl, rfl⟩
    refine qs_ 1 (Za ?_)
    obtain rfl := oi_ bD
    exact aQ _ _ ⟨ha_, rfl⟩
   have bE := Zi ak aM
   refine qs_ 6 (Za ?_)
   obtain rfl := oi_ bE
   exact aQ _ _ ⟨ha_, rfl⟩
  obtain ⟨aI, rfl⟩ := hM
  obtain ⟨β, rfl⟩ := Zk aI
  clear aI
  refine bm _ _ ?_
  obtain ⟨ac, aN, bF⟩ := bs_ bB
  refine ZC (fun α ar => Has α [(0, .iface 221 (pt_ O 3)), (1, i_ Y), (2, i_ U), (7, i_ e), (9, i_ ac)] /\ ab = ar) (fun _ aR => ?_) (fun α ar hM => ?_)
  ·refine wb_ (aU) (fun al => ?_) fun al => ?_
   ·have bG := Ze al aN
    refine g_' (qs_ 2 (Za ?_))
    obtain rfl := oi_ bG
    exact aR _ _ ⟨ha_, rfl⟩
   have bH := ZM al aN
   refine Zg ?_
   obtain rfl := oi_ bH
   exact aR _ _ ⟨ha_, rfl⟩
  obtain ⟨aJ, rfl⟩ := hM
  obtain ⟨β, rfl⟩ := Zk aJ
  clear aJ
  refine bj _ _ (sq_ fun bn => sq_ fun bo => g_' (qs_ 3 ?_))
  obtain ⟨bN, bd, aW⟩ := bs_ bF
  have aX := (aD.frS Z aw)
  refine ZgN 154 185 ⟨O, 3, none⟩ #[i_ ac, i_ e] (D) #[D, i_ ac, i_ e] (by kernel_rfl) (by kernel_rfl) (aX.l_) (Zdu Z.wf ad.sq bd) ?_
  rintro _ _ ⟨rfl, rfl⟩
  refine qs_ 1 (Za (bo _ _ ?_))
  refine wb_ ((!bN)) (fun am => ?_) fun am => ?_
  ·have bJ := Ze am aW
   refine ZH (Zj (Zi4 (by decide) (Zj (ZT ?_))))
   obtain rfl := oi_ bJ
   obtain rfl := Zv ao
   exact aO _ _ ⟨ha_, (fs_ V (fr_ V) Z ir_), ad⟩
  have bK := ZM am aW
  refine Zg (bn _ _ (sq_ fun bp => g_' (qs_ 3 ?_)))
  obtain ⟨bO, be, bL⟩ := bs_ bK
  refine ZgN 155 185 ⟨O, 3, none⟩ #[i_ e, i_ ac] (D) #[D, i_ e, i_ ac] (by kernel_rfl) (by kernel_rfl) (aX.l_) (Zdq Z.wf ad be) ?_
  rintro _ bQ ⟨rfl, aZ, br⟩
  refine Za (bp _ _ (g_' (qs_ 2 (Za ?_))))
  obtain rfl := oi_ bL
  exact bf bs _ _ lt_ ⟨bO, ac, ao, ha_, (fs_ V (fs_ V (fr_ V) Z ir_) aZ ir_), br⟩
 obtain ⟨aF, aY, bq⟩ := hM
 obtain ⟨β, rfl⟩ := Zk aF
 clear aF
 refine bk _ _ (sn_ ?_)
 refine Zh ?_
 refine br_ [.bool (decide (ag.1 > Y))] ?_
 obtain rfl := oi_ bI
 exact ⟨rfl, (fs_ V (fr_ V) aY ir_), bq⟩
end Go.Vd

/-! (KSc2) -/

set_option maxRecDepth 100000
set_option maxHeartbeats 4000000
set_option linter.unusedVariables false
namespace Go.Vd
open Go.Proofs
attribute [local irreducible] Zp Zq aWp
theorem Zgh {H : AH} {D : Nat} {Z : Nat} {an : Value} {aA : Fp} {V : Value} {al : Fp} {aa : Nat} {aq : List (Bool × List (Int × Int × Int) × List (Int × Int × Int))} {ar : Int} {au : Int} {ah : Int} {ai : Int} {e : List (Int × Int)} {av : Int -> Option (Int × Int × Int)} {r : Int × Int × List (Int × Int)}
    (aj : WF H) (aX : Nd Zc 3 H an aq aA []) (aW : Row H Z [an, i_ ar, i_ au]) (U : Ow ZB 2 H V e al) (aY : Ms .i64 ZU H aa av) (O : Row H D [pt_ Z 0, i_ ah, i_ ai, V, .map (some aa)]) (az : Dj [D] al) (ao : Zc4 aq ar au ah ai e av = some r) :
    ACalls Tryz.prog 156 #[pt_ D 3] H fun v H' => ∃ (aw : Value), v = .iface 223 (.agg #[.int .u64 r.1, i_ r.2.1]) /\ FrS [D] H H' /\ Ow ZB 2 H' aw r.2.2 al /\ Row H' D [pt_ Z 0, i_ ah, i_ ai, aw, .map (some aa)] := by
 refine ab_ Tryz.func156 ?_
 unfold Zc4 at ao
 refine sn_ (sq_ fun aF => g_' (qs_ 2 (lr_ 185 3 (V) O (U.sq.ln_ 185 ?_))))
 obtain ⟨aB, aO⟩ := Zb ao
 refine w_' (((e.length : Int) - 1)) (Zo aB) (qs_ 1 (Za (aF _ _ (sq_ fun aC => g_' (qs_ 2 (lr_ 185 3 (V) O (qs_ 1 ?_)))))))
 obtain ⟨ae, aJ⟩ := Zb aO
 refine U.sq.ix_ 185 ae.1 ae.2 (le_ 223 0 (.agg #[.int .u64 ((gt e ((e.length : Int) - 1)).1), i_ ((gt e ((e.length : Int) - 1)).2)]) U.sq ae.1 ae.2 ?_)
 refine rk_ aj [.int .u64 0, i_ 0] fun aV aS ac af aK => ?_
 obtain ⟨aT, aG, ad, aL⟩ := ra_ 223 0 ac.wf aK [.int .u64 ((gt e ((e.length : Int) - 1)).1), i_ ((gt e ((e.length : Int) - 1)).2)] [.int .u64 ((gt e ((e.length : Int) - 1)).1), i_ ((gt e ((e.length : Int) - 1)).2)]
 refine ek_ aG (Za (aC _ _ (sq_ fun aD => g_' (qs_ 3 ?_))))
 have ax := ((O.ext ac).frS ad (af.djn O.ltF))
 refine lr_ 185 3 (V) ax (qs_ 1 ?_)
 obtain ⟨am, aM⟩ := Zb aJ
 have aP := ((U.ext ac).fr ad (af.djn U.lt))
 obtain ⟨aZ, aH, ap⟩ := Ow.head (P := Tryz.prog) aP (t := 185) (by kernel_rfl) (hi := (some (i_ ((e.length : Int) - 1)))) (r := ((e.length : Int) - 1).toNat) (ZcM _ (by have := am; omega)) (by have := am; omega)
 obtain ⟨Y, ag, ab, rfl⟩ := ap.form
 refine Zbi (.slice Y ag ab) (by kernel_rfl) aH ?_
 refine qs_ 1 ?_
 obtain ⟨aU, aI, ak, aN⟩ := rb_ 185 3 ad.wf ax (.slice Y ag ab) [pt_ Z 0, i_ ah, i_ ai, .slice Y ag ab, .map (some aa)]
 refine ek_ aI (Za (aD _ _ (sq_ fun aE => g_' ?_)))
 have ay := (af.djn O.ltF)
 have aQ := (aL.frS ak (Dj.symm ay))
 refine lr_ 223 0 (.agg #[.int .u64 ((gt e ((e.length : Int) - 1)).1), i_ ((gt e ((e.length : Int) - 1)).2)]) aQ (qs_ 2 (Za (aE _ _ ?_)))
 refine Zh ?_
 refine br_ [.iface 223 (.agg #[.int .u64 ((gt e ((e.length : Int) - 1)).1), i_ ((gt e ((e.length : Int) - 1)).2)])] ?_
 have aR := (ap.fr ak az)
 obtain rfl := oi_ aM
 exact ⟨(.slice Y ag ab), rfl, (fs_ aj (fs_ aj ((fr_ aj).extR ac) ad (af.fresh (Nat.le_refl _))) ak ir_), aR, aN⟩
theorem Zf9 {H : AH} {D : Nat} {aa : Nat} {ar : Value} {ak : Fp} {O : Value} {e : Fp} {ab : Nat} {al : List (Bool × List (Int × Int × Int) × List (Int × Int × Int))} {am : Int} {an : Int} {ac : Int} {ad : Int} {ao : List (Int × Int)} {ap : Int -> Option (Int × Int × Int)} {r : Int × Int × List (Int × Int) × List (Int × Int)}
    (Y : WF H) (aH : Nd Zc 3 H ar al ak []) (aG : Row H aa [ar, i_ am, i_ an]) (aq : Ow ZB 2 H O ao e) (aI : Ms .i64 ZU H ab ap) (ae : Row H D [pt_ aa 0, i_ ac, i_ ad, O, .map (some ab)]) (ai : Dj e ak) (ag : Dj e [aa]) (ah : Dj e [ab]) (Z : Dj e [D]) (au : ZbZ al am an ac ad ao ap = some r) :
    ACalls Tryz.prog 111 #[.iface 221 (pt_ D 3)] H fun v H' => ∃ (ax : Value), v = .iface 223 (.agg #[.int .u64 r.1, i_ r.2.1]) /\ FrS ([D] ++ e) H H' /\ Ow ZB 2 H' O r.2.2.1 e /\ Ow ZB 2 H' ax r.2.2.2 e /\ Row H' D [pt_ aa 0, i_ ac, i_ ad, ax, .map (some ab)] := by
 refine ab_ Tryz.func111 ?_
 unfold ZbZ at au
 refine sn_ (sq_ fun aQ => g_' (qs_ 1 ?_))
 obtain ⟨af, aJ, aU⟩ := bs_ au
 refine ZgN 153 185 ⟨D, 3, none⟩ #[] (O) #[O] (by kernel_rfl) (by kernel_rfl) (ae.l_) (Zes Y aq.sq aJ) ?_
 rintro _ _ ⟨rfl, rfl⟩
 obtain ⟨aF, aV⟩ := Zb aU
 refine w_' ((af - 1)) (Zo aF) (qs_ 1 (Za (aQ _ _ (sq_ fun aN => g_' (qs_ 2 ?_)))))
 obtain ⟨bc, aK, aW⟩ := bs_ aV
 refine ZgN 155 185 ⟨D, 3, none⟩ #[i_ 0, i_ (af - 1)] (O) #[O, i_ 0, i_ (af - 1)] (by kernel_rfl) (by kernel_rfl) (ae.l_) (Zdq Y aq aK) ?_
 rintro _ a8 ⟨rfl, U, aR⟩
 refine Za (aN _ _ (sq_ fun aO => g_' (qs_ 2 ?_)))
 have ay := (aH.fr U ai)
 have az := (aG.frS U ag)
 have aA := (aI.frS U ah)
 have aB := (ae.frS U Z)
 obtain ⟨bd, aL, aX⟩ := bs_ aW
 refine ck_ (ZfU U.wf ay az aR aA aB Z aL) ?_
 rintro _ a_ ⟨rfl, V, av⟩
 refine Za (aO _ _ (sq_ fun aP => g_' (qs_ 1 ?_)))
 have aZ := (ay.fr V ai)
 have a1 := (az.frS V ag)
 have a2 := (aA.frS V ah)
 have a6 := (aB.frS V Z)
 obtain ⟨aC, aM, aY⟩ := bs_ aX
 refine ck_ (Zgh V.wf aZ a1 av a2 a6 (Dj.symm Z) aM) ?_
 rintro _ ba ⟨bb, rfl, aj, aw, aS⟩
 obtain ⟨aD, aT, aE, rfl⟩ := aw.form
 refine qs_ 1 (Za (aP _ _ ?_))
 refine Zh ?_
 refine br_ [.iface 223 (.agg #[.int .u64 aC.1, i_ aC.2.1])] ?_
 have a7 := (av.fr aj (Dj.symm Z))
 obtain rfl := oi_ aY
 exact ⟨(.slice aD aT aE), rfl, (fs_ Y (fs_ Y (fs_ Y (fr_ Y) U (Inn.right ir_)) V (Inn.right ir_)) aj Inn.left), a7, aw, aS⟩
theorem Zgg {H : AH} {aa : Nat} {aj : Nat} {ba : Value} {aL : Fp} {aP : Value} {ad : Fp} {ag : Nat} {aA : List (Bool × List (Int × Int × Int) × List (Int × Int × Int))} {aB : Int} {aC : Int} {al : Int} {am : Int} {aX : List (Int × Int)} {D : Int -> Option (Int × Int × Int)} {r : Int × Int × Int × Int × Bool × List (Int × Int)}
    (af : WF H) (bU : Nd Zc 3 H ba aA aL []) (bT : Row H aj [ba, i_ aB, i_ aC]) (ah : Ow ZB 2 H aP aX ad) (a_ : Ms .i64 ZU H ag D) (ak : Row H aa [pt_ aj 0, i_ al, i_ am, aP, .map (some ag)]) (a8 : Dj ad aL) (a7 : Dj ad [aj]) (aH : Dj ad [ag]) (bS : Dj ad [aa]) (a6 : Dj [aa] [ag]) (bR : Dj [aa] aL) (bQ : Dj [aa] [aj]) (bd : Zcc aA aB aC al am aX D = some r) :
    ACalls Tryz.prog 101 #[pt_ aa 0] H fun v H' => ∃ (bs : Value), v = .tuple #[i_ r.1, .agg #[.int .u64 r.2.1, i_ r.2.2.1, i_ r.2.2.2.1], .bool r.2.2.2.2.1] /\ FrS ([aa] ++ ad) H H' /\ Ow ZB 2 H' bs r.2.2.2.2.2 ad /\ Row H' aa [pt_ aj 0, i_ al, i_ am, bs, .map (some ag)] := by
 refine ab_ Tryz.func101 ?_
 unfold Zcc at bd
 refine sq_ fun cd => g_' (qs_ 1 ?_)
 refine rk_ af [.int .u64 0, i_ 0, i_ 0] fun av aY O an az => ?_
 refine qs_ 1 (Za (cd _ _ (sq_ fun b7 => ?_)))
 obtain ⟨bv, bY, bn⟩ := bs_ bd
 refine ZC (fun α ar => ∃ aT, bv = Sum.inr aT /\ ∃ (aV : Value), Has α [(3, pt_ av 0)] /\ FrS ([aa] ++ ad) aY ar /\ Ow ZB 2 ar aV aT ad /\ Row ar aa [pt_ aj 0, i_ al, i_ am, aV, .map (some ag)]) (fun _ b9 => ?_) (fun α ar hM => ?_)
 ·refine Zl ?_
  obtain ⟨bk, bW⟩ := Zt.1 bY
  have cO := (ah.ext O)
  have cP := (ak.ext O)
  refine ZI (fun n α au => ∃ (aq : List (Int × Int)), ∃ (aW : Value), ZO (fun zz_ => Zbh aA aB aC al am D zz_) n aq = some bv /\ Has α [(0, pt_ aa 0), (3, pt_ av 0)] /\ FrS ([aa] ++ ad) aY au /\ Ow ZB 2 au aW aq ad /\ Row au aa [pt_ aj 0, i_ al, i_ am, aW, .map (some ag)]) bk ⟨aX, (aP), bW, ha_, (fr_ O.wf), cO, cP⟩ ?_
  rintro bk α au ⟨aq, aW, bV, bc, U, ax, aQ⟩ cX bf
  obtain ⟨bl, z39, rfl, ap, aw⟩ := Zx bV
  obtain ⟨β, rfl⟩ := Zk bc
  clear bc
  replace ap : Zbh aA aB aC al am D aq = some z39 := ap
  unfold Zbh at ap
  obtain ⟨a45, bm, aZ, rfl⟩ := ax.form
  refine sq_ fun b_ => sq_ fun ca => g_' (qs_ 3 (lr_ 185 3 (.slice a45 bm aZ) aQ (ax.sq.ln_ 185 (qs_ 1 (Za (ca _ _ ?_))))))
  refine wc_ ((aq.length : Int) > 0) (fun aN => ?_) fun aN => ?_
  ·have cC := Ze aN ap
   refine Zg (b_ _ _ (Zl (sq_ fun cc => g_' (qs_ 4 ?_))))
   have cQ := ((bU.ext O).fr U (Dj.app bR a8))
   have cR := ((bT.ext O).frS U (Dj.app bQ a7))
   have bt := ((a_.ext O).frS U (Dj.app a6 aH))
   obtain ⟨e, bZ, bo⟩ := bs_ cC
   refine ck_ (Zf9 U.wf cQ cR ax bt aQ a8 a7 aH bS bZ) ?_
   rintro _ cT ⟨c3, rfl, Y, c0, ay, cg⟩
   obtain ⟨a66, aS, aE, rfl⟩ := ay.form
   refine qs_ 1 ?_
   refine rk_ Y.wf [.int .u64 0, i_ 0] fun cY cU Z ai bp => ?_
   obtain ⟨bz, cr, V, bq⟩ := ra_ 223 0 Z.wf bp [.int .u64 e.1, i_ e.2.1] [.int .u64 e.1, i_ e.2.1]
   refine ek_ cr (Za (cc _ _ (sq_ fun ce => ?_)))
   refine ZR [0, 1, 2, 3, 4, 5, 6, 7, 8] (by kernel_rfl) ?_
   refine es_ 3 ?_
   have ao := (t_ (t_ O.n U.n) Y.n)
   have bN := (ai.djn (ak.ltF.le ao))
   have aD := ((cg.ext Z).frS V bN)
   refine mr_ 183 4 (.map (some ag)) aD (es_ 1 (mr_ 3 1 (i_ e.2.1) bq ?_))
   have bO := (ai.djn (a_.ltF.le ao))
   have cS := (((bt.frS Y (Dj.app a6 aH)).ext Z).frS V bO)
   refine m_' (.agg #[.int .u64 (((D e.2.1).getD ((0, 0, 0) : Int × Int × Int)).1), i_ (((D e.2.1).getD ((0, 0, 0) : Int × Int × Int)).2.1), i_ (((D e.2.1).getD ((0, 0, 0) : Int × Int × Int)).2.2)]) (Zdj Tryz.prog 183 (.map (some ag)) (i_ e.2.1) false bz) (cS.look ((0, 0, 0) : Int × Int × Int) (zv := .agg #[.int .u64 0, i_ 0, i_ 0]) rfl (by kernel_rfl) (by kernel_rfl) _ rfl) ?_
   refine ZkT V.wf [.int .u64 0, i_ 0, i_ 0] (by kernel_rfl) fun cZ cV ab ae cD => ?_
   obtain ⟨cW, cu, ac, aU⟩ := ra_ 190 0 ab.wf cD [.int .u64 (((D e.2.1).getD ((0, 0, 0) : Int × Int × Int)).1), i_ (((D e.2.1).getD ((0, 0, 0) : Int × Int × Int)).2.1), i_ (((D e.2.1).getD ((0, 0, 0) : Int × Int × Int)).2.2)] [.int .u64 (((D e.2.1).getD ((0, 0, 0) : Int × Int × Int)).1), i_ (((D e.2.1).getD ((0, 0, 0) : Int × Int × Int)).2.1), i_ (((D e.2.1).getD ((0, 0, 0) : Int × Int × Int)).2.2)]
   refine fk_ cu (ZL) ?_
   refine ZK ?_
   refine ce _ _ (sq_ fun bg => g_' (qs_ 1 (lr_ 3 2 (i_ (((D e.2.1).getD ((0, 0, 0) : Int × Int × Int)).2.2)) aU ?_)))
   refine sb_ ((((D e.2.1).getD ((0, 0, 0) : Int × Int × Int)).2.2) = 0) (fun aO => ?_) fun aO => ?_
   ·have br := Ze aO bo
    refine qs_ 2 (lr_ 61 0 (.int .u64 (((D e.2.1).getD ((0, 0, 0) : Int × Int × Int)).1)) aU (qs_ 1 ?_))
    have bP := (ae.djn (bp.ltF.le V.n))
    have bu := ((bq.ext ab).frS ac bP)
    refine lr_ 61 0 (.int .u64 e.1) bu (qs_ 2 (Za (bg _ _ ?_)))
    refine wc_ ((((D e.2.1).getD ((0, 0, 0) : Int × Int × Int)).1) = e.1) (fun aM => ?_) fun aM => ?_
    ·have cv := Ze aM br
     refine sq_ fun b6 => ?_
     refine ZR [0, 1, 2, 3, 4, 5] (by kernel_rfl) ?_
     refine es_ 1 (mr_ 3 1 (i_ e.2.1) bu (mr_ 190 0 (.agg #[.int .u64 (((D e.2.1).getD ((0, 0, 0) : Int × Int × Int)).1), i_ (((D e.2.1).getD ((0, 0, 0) : Int × Int × Int)).2.1), i_ (((D e.2.1).getD ((0, 0, 0) : Int × Int × Int)).2.2)]) aU (es_ 1 ?_)))
     have aF := (an.djn ah.lt)
     have aG := (an.djn ak.ltF)
     have ch := (t_ U.n Y.n)
     have bC := (ai.djn (az.ltF.le ch))
     have ci := (t_ (t_ (t_ U.n Y.n) Z.n) V.n)
     have bD := (ae.djn (az.ltF.le ci))
     have cE := ((((((az.frS U (Dj.app (Dj.symm aG) (Dj.symm aF))).frS Y (Dj.app (Dj.symm aG) (Dj.symm aF))).ext Z).frS V bC).ext ab).frS ac bD)
     obtain ⟨bw, cp, aI, cw⟩ := ra_ 190 0 ac.wf cE [.int .u64 (((D e.2.1).getD ((0, 0, 0) : Int × Int × Int)).1), i_ (((D e.2.1).getD ((0, 0, 0) : Int × Int × Int)).2.1), i_ (((D e.2.1).getD ((0, 0, 0) : Int × Int × Int)).2.2)] [.int .u64 (((D e.2.1).getD ((0, 0, 0) : Int × Int × Int)).1), i_ (((D e.2.1).getD ((0, 0, 0) : Int × Int × Int)).2.1), i_ (((D e.2.1).getD ((0, 0, 0) : Int × Int × Int)).2.2)]
     refine fk_ cp (ZL) (es_ 1 ?_)
     refine ZK ?_
     refine b6 _ _ ?_
     refine Zh (ZD (Zf (ZD (Zf (Zf ?_)))))
     obtain ⟨c4, be, b5⟩ := map_some cv
     subst b5
     obtain rfl := Zv aw
     have bX := elim_inl bn
     rw [bX] at be
     refine Zac (vs := [i_ e.2.1, .agg #[.int .u64 (((D e.2.1).getD ((0, 0, 0) : Int × Int × Int)).1), i_ (((D e.2.1).getD ((0, 0, 0) : Int × Int × Int)).2.1), i_ (((D e.2.1).getD ((0, 0, 0) : Int × Int × Int)).2.2)], .bool true]) (Zdb (by kernel_rfl) (ZQ (Eq.trans (b := aL_ 190 (pt_ av 0) bw) (by kernel_rfl) (cw.l_)) (rt_ (rfl)))) ?_
     have aR := (t_ (t_ (t_ (t_ O.n U.n) Y.n) Z.n) V.n)
     have bE := (ai.djn (ah.lt.le ao))
     have bF := (ae.djn (ah.lt.le aR))
     have cF := (((((ay.ext Z).fr V bE).ext ab).fr ac bF).fr aI aF)
     have bG := (ae.djn (ak.ltF.le aR))
     have cG := (((aD.ext ab).frS ac bG).frS aI aG)
     obtain rfl := oi_ be
     exact ⟨(.slice a66 aS aE), rfl, (fs_ af (fs_ af ((fs_ af ((fs_ af (fs_ af ((fr_ af).extR O) U ir_) Y ir_).extR Z) V (ai.fresh ao)).extR ab) ac (ae.fresh aR)) aI (an.fresh (Nat.le_refl _))), cF, cG⟩
    have cx := Zi aM br
    refine Zg ?_
    have cj := (t_ U.n Y.n)
    have ck := (t_ (t_ (t_ U.n Y.n) Z.n) V.n)
    have bH := (ai.djn (ah.lt.le ao))
    have bi := (t_ (t_ (t_ (t_ O.n U.n) Y.n) Z.n) V.n)
    have bI := (ae.djn (ah.lt.le bi))
    have cH := ((((ay.ext Z).fr V bH).ext ab).fr ac bI)
    have bJ := (ae.djn (ak.ltF.le bi))
    have cI := ((aD.ext ab).frS ac bJ)
    obtain rfl := oi_ cx
    exact bf bl _ _ lt_ ⟨e.2.2.2, (.slice a66 aS aE), aw, ha_, (fs_ O.wf ((fs_ O.wf ((fs_ O.wf (fs_ O.wf (fr_ O.wf) U ir_) Y ir_).extR Z) V (ai.fresh cj)).extR ab) ac (ae.fresh ck)), cH, cI⟩
   have cy := Zi aO bo
   refine qs_ 7 (Za (bg _ _ ?_))
   refine wb_ false (fun h => by cases h) fun _ => ?_
   refine Zg ?_
   have cm := (t_ U.n Y.n)
   have cn := (t_ (t_ (t_ U.n Y.n) Z.n) V.n)
   have bK := (ai.djn (ah.lt.le ao))
   have bj := (t_ (t_ (t_ (t_ O.n U.n) Y.n) Z.n) V.n)
   have bL := (ae.djn (ah.lt.le bj))
   have cJ := ((((ay.ext Z).fr V bK).ext ab).fr ac bL)
   have bM := (ae.djn (ak.ltF.le bj))
   have cK := ((aD.ext ab).frS ac bM)
   obtain rfl := oi_ cy
   exact bf bl _ _ lt_ ⟨e.2.2.2, (.slice a66 aS aE), aw, ha_, (fs_ O.wf ((fs_ O.wf ((fs_ O.wf (fs_ O.wf (fr_ O.wf) U ir_) Y ir_).extR Z) V (ai.fresh cm)).extR ab) ac (ae.fresh cn)), cJ, cK⟩
  have cz := Zi aN ap
  refine ZH (Zj (Zj (ZT ?_)))
  obtain rfl := oi_ cz
  obtain rfl := Zv aw
  exact b9 _ _ ⟨_, rfl, (.slice a45 bm aZ), ha_, (fs_ O.wf (fr_ O.wf) U ir_), ax, aQ⟩
 obtain ⟨aT, rfl, aV, bb, aK, bh, cf⟩ := hM
 have cA := elim_inr bn
 obtain ⟨β, rfl⟩ := Zk bb
 clear bb
 obtain ⟨bA, co, bB, rfl⟩ := bh.form
 refine b7 _ _ (sq_ fun b8 => g_' (qs_ 2 ?_))
 have a1 := (an.djn ah.lt)
 have a2 := (an.djn ak.ltF)
 have cL := (az.frS aK (Dj.app (Dj.symm a2) (Dj.symm a1)))
 obtain ⟨bx, cq, aJ, cB⟩ := ra_ 190 0 aK.wf cL [.int .u64 0, i_ 0, i_ 0] [.int .u64 0, i_ 0, i_ 0]
 refine ek_ cq (qs_ 1 (Za (b8 _ _ ?_)))
 refine Zh ?_
 refine Zac (vs := [i_ 0, .agg #[.int .u64 0, i_ 0, i_ 0], .bool false]) (Zdb (by kernel_rfl) (ZQ (Eq.trans (b := aL_ 190 (pt_ av 0) bx) (by kernel_rfl) (cB.l_)) (rt_ (rfl)))) ?_
 have cM := (bh.fr aJ a1)
 have cN := (cf.frS aJ a2)
 obtain rfl := oi_ cA
 exact ⟨(.slice bA co bB), rfl, (fs_ af (fs_ af ((fr_ af).extR O) aK ir_) aJ (an.fresh (Nat.le_refl _))), cM, cN⟩
theorem ZfS {H : AH} {aj : Nat} {ar : Nat} {bC : Value} {aK : Fp} {aM : Value} {ak : Fp} {ae : Nat} {aT : List (Bool × List (Int × Int × Int) × List (Int × Int × Int))} {aU : Int} {aV : Int} {av : Int} {aw : Int} {bi : List (Int × Int)} {bj : Int -> Option (Int × Int × Int)} {aY : Int} {ag : Int} {hops : Int} {bk : Int} {r : (Int -> Option (Int × Int × Int)) × List (Int × Int)}
    (ax : WF H) (aA : Nd Zc 3 H bC aT aK []) (az : Row H ar [bC, i_ aU, i_ aV]) (aB : Ow ZB 2 H aM bi ak) (ap : Ms .i64 ZU H ae bj) (an : Row H aj [pt_ ar 0, i_ av, i_ aw, aM, .map (some ae)]) (bu : Dj [ae] [aj]) (bv : Dj [ae] ak) (a1 : Dj [ae] aK) (aZ : Dj [ae] [ar]) (c4 : Dj ak [aj]) (bA : Dj ak aK) (bx : Dj [aj] aK) (bz : Dj ak [ar]) (bw : Dj [aj] [ar]) (c5 : Dj ak [ae]) (ba : Zbr aT aU aV av aw bi bj aY ag hops bk = some r) :
    ACalls Tryz.prog 102 #[pt_ aj 0, i_ aY, .agg #[.int .u64 ag, i_ hops, i_ bk]] H fun v H' => ∃ (b7 : Value) (f6 : Fp), v = .tuple #[] /\ FrS ([aj] ++ ([ae] ++ ak)) H H' /\ Ms .i64 ZU H' ae r.1 /\ Ow ZB 2 H' b7 r.2 f6 /\ Row H' aj [pt_ ar 0, i_ av, i_ aw, b7, .map (some ae)] /\ Inn ak H f6 := by
 refine ab_ Tryz.func102 ?_
 unfold Zbr at ba
 refine sq_ fun dm => g_' ?_
 refine rl_ ax [.int .u64 ag, i_ hops, i_ bk] fun bq eH af ao bf => ?_
 refine Za (dm _ _ (sq_ fun du => g_' (qs_ 1 ?_)))
 obtain ⟨eL, d0, ab, b6⟩ := rb_ 3 2 af.wf bf (i_ 1) [.int .u64 ag, i_ hops, i_ 1]
 refine ek_ d0 (Za (du _ _ (sq_ fun dv => ?_)))
 refine ZR [0, 1, 2, 3, 4, 5, 6] (by kernel_rfl) ?_
 refine es_ 3 ?_
 have ca := ((an.ext af).frS ab (ao.djn an.ltF))
 refine mr_ 183 4 (.map (some ae)) ca (es_ 1 (mr_ 190 0 (.agg #[.int .u64 ag, i_ hops, i_ 1]) b6 ?_))
 have eA := ((ap.ext af).frS ab (ao.djn ap.ltF))
 obtain ⟨eM, d1, c7, bN⟩ := eA.put (P := Tryz.prog) ab.wf (t := 183) (zv := .agg #[.int .u64 0, i_ 0, i_ 0]) (val := .agg #[.int .u64 ag, i_ hops, i_ 1]) (by kernel_rfl) aY (ag, hops, 1) rfl
 have ac := c7.frS (W := [ae]) (List.mem_singleton.2 rfl)
 refine fk_ d1 (ZL) ?_
 refine ZK ?_
 refine dv _ _ (sq_ fun dw => sq_ fun dx => ?_)
 refine ZR [0, 1, 2, 3, 4, 5, 6] (by kernel_rfl) ?_
 refine es_ 1 ?_
 have bt := (ao.djn ap.ltF)
 have cc := (b6.frS ac (Dj.symm bt))
 refine mr_ 3 1 (i_ hops) cc (es_ 3 ?_)
 have aX := (ca.frS ac bu)
 refine mr_ 3 2 (i_ aw) aX (es_ 1 ?_)
 refine ZK ?_
 refine dx _ _ ?_
 refine wc_ (hops ≥ aw) (fun a8 => ?_) fun a8 => ?_
 ·have ej := Ze a8 ba
  refine Zh (Zf ?_)
  refine Zac (vs := []) (rfl) ?_
  have eB := (((aB.ext af).fr ab (ao.djn aB.lt)).fr ac bv)
  obtain rfl := oi_ ej
  exact ⟨(aM), ak, rfl, (fs_ ax (fs_ ax ((fr_ ax).extR af) ab (ao.fresh (Nat.le_refl _))) ac (Inn.right Inn.left)), bN, eB, aX, ir_⟩
 have ek := Zi a8 ba
 refine Zg (dw _ _ (sq_ fun dy => g_' (qs_ 3 (lr_ 30 0 (pt_ ar 0) aX (qs_ 1 ?_)))))
 have cd := (((aA.ext af).fr ab (ao.djn aA.lt)).fr ac a1)
 have ce := (((az.ext af).frS ab (ao.djn az.ltF)).frS ac aZ)
 obtain ⟨D, dh, el⟩ := bs_ ek
 refine ck_ (Zcw ac.wf cd ce dh) ?_
 rintro eR aI ⟨_, f46, rfl, O, bc, bb⟩
 obtain ⟨bo, bQ, br, rfl⟩ := bc.form
 refine bc.sq.ln_ 92 (qs_ 1 (Za (dy _ _ ?_)))
 obtain ⟨be, df, em⟩ := bs_ el
 refine ZC (fun α aC => ∃ (bg : Value) (aJ : Fp), Has α [] /\ FrS ([aj] ++ ([ae] ++ ak)) aI aC /\ Ms .i64 ZU aC ae be.1 /\ Ow ZB 2 aC bg be.2 aJ /\ Row aC aj [pt_ ar 0, i_ av, i_ aw, bg, .map (some ae)] /\ Inn ak aI aJ) (fun _ dz => ?_) (fun α aC hM => ?_)
 ·refine Zl ?_
  obtain ⟨bR, de⟩ := Zt.1 df
  have eC := ((((aB.ext af).fr ab (ao.djn aB.lt)).fr ac bv).fr O dn_)
  have eD := (bN.frS O dn_)
  have eE := (aX.frS O dn_)
  refine ZI (fun n α aD => ∃ (aH : List (Int × Int)), ∃ (ad : Int -> Option (Int × Int × Int)), ∃ (e : Int), ∃ (bh : Value), ∃ (aE : Fp), ZO (fun zz_ => ZaS aT aU aV av aw ag hops D zz_.1 zz_.2.1 zz_.2.2) n (aH, ad, e) = some be /\ Has α [(0, pt_ aj 0), (5, pt_ bq 0), (30, .slice bo bQ br), (31, i_ (D.length : Int)), (32, i_ e)] /\ FrS ([aj] ++ ([ae] ++ ak)) aI aD /\ Ow ZB 2 aD bh aH aE /\ Ms .i64 ZU aD ae ad /\ Row aD aj [pt_ ar 0, i_ av, i_ aw, bh, .map (some ae)] /\ Inn ak aI aE) bR ⟨bi, (fun x => if x = aY then some (ag, hops, 1) else bj x), 0, (aM), ak, de, ha_, (fr_ O.wf), eC, eD, eE, ir_⟩ ?_
  rintro bR α aD ⟨aH, ad, e, bh, aE, dd, bF, aa, aq, bL, bM, ay⟩ eO bI
  obtain ⟨bS, eF, rfl, aG, a_⟩ := Zx dd
  obtain ⟨β, rfl⟩ := Zk bF
  clear bF
  replace aG : ZaS aT aU aV av aw ag hops D aH ad e = some eF := aG
  unfold ZaS at aG
  obtain ⟨bp, bT, bs, rfl⟩ := aq.form
  refine sn_ (sq_ fun dA => ?_)
  refine wc_ (e < (D.length : Int)) (fun aF => ?_) fun aF => ?_
  ·have d2 := Ze aF aG
   refine Zg (dA _ _ (sq_ fun bH => Zl (sq_ fun dn => g_' ?_)))
   obtain ⟨bB, d3⟩ := Zb d2
   have bd := (t_ (t_ af.n ab.n) ac.n)
   have cp := (bb.djn (aB.lt.le bd))
   have cq := (bb.djn (ap.ltF.le bd))
   have cr := (bb.djn (an.ltF.le bd))
   have b8 := (bc.fr aa (Dj.app (Dj.symm cr) (Dj.app (Dj.symm cq) (Dj.symm cp))))
   refine b8.sq.ix_ 92 bB aF (le_ 98 0 (.agg #[i_ ((gt D e).1), .int .u64 ((gt D e).2.1), i_ ((gt D e).2.2)]) b8.sq bB aF ?_)
   refine rk_ aa.wf [i_ 0, .int .u64 0, i_ 0] fun ck eG V au aS => ?_
   obtain ⟨cg, dX, U, bV⟩ := ra_ 98 0 V.wf aS [i_ ((gt D e).1), .int .u64 ((gt D e).2.1), i_ ((gt D e).2.2)] [i_ ((gt D e).1), .int .u64 ((gt D e).2.1), i_ ((gt D e).2.2)]
   refine ek_ dX (Za (dn _ _ (sq_ fun dp => ?_)))
   refine ZR [0, 1, 2, 3, 4, 5, 6, 7, 8, 9, 10, 11, 12] (by kernel_rfl) ?_
   refine es_ 3 ?_
   have aO := (t_ (t_ (t_ (t_ af.n ab.n) ac.n) O.n) aa.n)
   have cu := (au.djn (an.ltF.le aO))
   have aW := ((bM.ext V).frS U cu)
   refine mr_ 183 4 (.map (some ae)) aW (es_ 1 (mr_ 3 0 (i_ ((gt D e).1)) bV ?_))
   have cv := (au.djn (ap.ltF.le aO))
   have bl := ((bL.ext V).frS U cv)
   refine m_' (.tuple #[.agg #[.int .u64 (((ad ((gt D e).1)).getD ((0, 0, 0) : Int × Int × Int)).1), i_ (((ad ((gt D e).1)).getD ((0, 0, 0) : Int × Int × Int)).2.1), i_ (((ad ((gt D e).1)).getD ((0, 0, 0) : Int × Int × Int)).2.2)], .bool ((ad ((gt D e).1)).isSome)]) (Zdj Tryz.prog 183 (.map (some ae)) (i_ ((gt D e).1)) true cg) (bl.look2 ((0, 0, 0) : Int × Int × Int) (zv := .agg #[.int .u64 0, i_ 0, i_ 0]) rfl (by kernel_rfl) (by kernel_rfl) _ rfl) (es_ 3 ?_)
   refine ZkT U.wf [.int .u64 0, i_ 0, i_ 0] (by kernel_rfl) fun eP eI Z am bW => ?_
   obtain ⟨eJ, dY, Y, d4⟩ := ra_ 190 0 Z.wf bW [.int .u64 (((ad ((gt D e).1)).getD ((0, 0, 0) : Int × Int × Int)).1), i_ (((ad ((gt D e).1)).getD ((0, 0, 0) : Int × Int × Int)).2.1), i_ (((ad ((gt D e).1)).getD ((0, 0, 0) : Int × Int × Int)).2.2)] [.int .u64 (((ad ((gt D e).1)).getD ((0, 0, 0) : Int × Int × Int)).1), i_ (((ad ((gt D e).1)).getD ((0, 0, 0) : Int × Int × Int)).2.1), i_ (((ad ((gt D e).1)).getD ((0, 0, 0) : Int × Int × Int)).2.2)]
   refine fk_ dY (ZL) (es_ 1 ?_)
   refine ZK ?_
   refine dp _ _ (sq_ fun dq => g_' (qs_ 1 ?_))
   have cw := (ao.djn aB.lt)
   have cx := (ao.djn an.ltF)
   have dF := (t_ (t_ (t_ ab.n ac.n) O.n) aa.n)
   have cy := (au.djn (bf.ltF.le dF))
   have dG := (t_ (t_ (t_ (t_ (t_ ab.n ac.n) O.n) aa.n) V.n) U.n)
   have cz := (am.djn (bf.ltF.le dG))
   have b9 := ((((((cc.frS O dn_).frS aa (Dj.app (Dj.symm cx) (Dj.app (Dj.symm bt) (Dj.symm cw)))).ext V).frS U cy).ext Z).frS Y cz)
   refine lr_ 61 0 (.int .u64 ag) b9 (qs_ 1 ?_)
   have cA := (am.djn (aS.ltF.le U.n))
   have bm := ((bV.ext Z).frS Y cA)
   refine lr_ 61 1 (.int .u64 ((gt D e).2.1)) bm ?_
   obtain ⟨c_, d5⟩ := Zb d3
   refine s_w ((ag + ((gt D e).2.1))) (k := .u64) (x := (ag + ((gt D e).2.1))) (by kernel_rfl) (ZdA c_) ?_
   refine qs_ 1 (lr_ 3 1 (i_ hops) b9 ?_)
   obtain ⟨da, d6⟩ := Zb d5
   refine w_' ((hops + 1)) (Zo da) (qs_ 1 ?_)
   refine rk_ Y.wf [.int .u64 0, i_ 0, i_ 0] fun cm eK ah al d7 => ?_
   obtain ⟨ch, dZ, ai, bX⟩ := ra_ 190 0 ah.wf d7 [.int .u64 (ag + ((gt D e).2.1)), i_ (hops + 1), i_ 0] [.int .u64 (ag + ((gt D e).2.1)), i_ (hops + 1), i_ 0]
   refine ek_ dZ (Za (dq _ _ (sq_ fun dr => sq_ fun dt => ?_)))
   obtain ⟨bU, bG, bY⟩ := bs_ d6
   refine ZC (fun α bn => Has α [(0, pt_ aj 0), (5, pt_ bq 0), (7, pt_ ck 0), (10, pt_ cm 0), (30, .slice bo bQ br), (31, i_ (D.length : Int)), (32, i_ e), (76, .bool bU)] /\ ch = bn) (fun _ aN => ?_) (fun α bn hM => ?_)
   ·refine ZR [0, 1, 2, 3, 4, 5, 6, 7, 8, 9, 10, 11, 12, 13, 14, 15, 16, 17, 18, 19, 20, 21] (by kernel_rfl) ?_
    refine es_ 1 ?_
    have dH := (t_ (t_ U.n Z.n) Y.n)
    have cB := (al.djn (aS.ltF.le dH))
    have eo := ((bm.ext ah).frS ai cB)
    refine mr_ 3 0 (i_ ((gt D e).1)) eo (es_ 3 ?_)
    have dI := (t_ (t_ (t_ (t_ (t_ (t_ af.n ab.n) ac.n) O.n) aa.n) V.n) U.n)
    have cC := (am.djn (an.ltF.le dI))
    have dJ := (t_ (t_ (t_ (t_ (t_ (t_ (t_ (t_ af.n ab.n) ac.n) O.n) aa.n) V.n) U.n) Z.n) Y.n)
    have cD := (al.djn (an.ltF.le dJ))
    have ep := ((((aW.ext Z).frS Y cC).ext ah).frS ai cD)
    refine mr_ 3 1 (i_ av) ep ?_
    refine db_ (((gt D e).1) = av) (fun a2 => ?_) fun a2 => ?_
    ·have d8 := Ze a2 bG
     refine es_ 15 ?_
     refine ZK ?_
     obtain rfl := oi_ d8
     exact aN _ _ ⟨ha_, rfl⟩
    have bZ := Zi a2 bG
    refine es_ 2 ?_
    have cE := (al.djn (bW.ltF.le Y.n))
    have b_ := ((d4.ext ah).frS ai cE)
    refine mr_ 3 2 (i_ (((ad ((gt D e).1)).getD ((0, 0, 0) : Int × Int × Int)).2.2)) b_ ?_
    refine db_ ((((ad ((gt D e).1)).getD ((0, 0, 0) : Int × Int × Int)).2.2) > 0) (fun a6 => ?_) fun a6 => ?_
    ·have d9 := Ze a6 bZ
     refine es_ 11 ?_
     refine ZK ?_
     obtain rfl := oi_ d9
     exact aN _ _ ⟨ha_, rfl⟩
    have b5 := Zi a6 bZ
    refine es_ 2 (e_' (.bool ((ad ((gt D e).1)).isSome)) (e_' (.bool ((ad ((gt D e).1)).isSome)) ?_))
    by_cases aL : (ad ((gt D e).1)).isSome = true
    ·have d_ := Ze aL b5
     rw [aL]
     refine es_ 1 (mr_ 61 0 (.int .u64 (((ad ((gt D e).1)).getD ((0, 0, 0) : Int × Int × Int)).1)) b_ (es_ 1 (mr_ 61 0 (.int .u64 (ag + ((gt D e).2.1))) bX (es_ 3 ?_))))
     refine ZK ?_
     obtain rfl := oi_ d_
     exact aN _ _ ⟨ha_, rfl⟩
    have ea := Zi aL b5
    rw [nb aL]
    refine es_ 7 ?_
    refine ZK ?_
    obtain rfl := oi_ ea
    exact aN _ _ ⟨ha_, rfl⟩
   obtain ⟨bD, rfl⟩ := hM
   obtain ⟨β, rfl⟩ := Zk bD
   clear bD
   refine dt _ _ ?_
   refine wb_ (bU) (fun a7 => ?_) fun a7 => ?_
   ·have eb := Ze a7 bY
    refine ZH (Zj (ZT ?_))
    refine bH _ _ (g_' ?_)
    obtain ⟨db, ec⟩ := Zb eb
    refine w_' ((e + 1)) (Zo (by have := db; omega)) (qs_ 1 (Za ?_))
    have dK := (t_ (t_ aa.n V.n) U.n)
    have dL := (t_ (t_ (t_ (t_ aa.n V.n) U.n) Z.n) Y.n)
    have dM := (t_ V.n U.n)
    have cF := (am.djn (aq.lt.le dM))
    have dN := (t_ (t_ (t_ V.n U.n) Z.n) Y.n)
    have cG := (al.djn (aq.lt.le dN))
    have eq := ((((((aq.ext V).fr U (au.djn aq.lt)).ext Z).fr Y cF).ext ah).fr ai cG)
    have bO := (t_ (t_ (t_ (t_ (t_ (t_ af.n ab.n) ac.n) O.n) aa.n) V.n) U.n)
    have cH := (am.djn (ap.ltF.le bO))
    have bP := (t_ (t_ (t_ (t_ (t_ (t_ (t_ (t_ af.n ab.n) ac.n) O.n) aa.n) V.n) U.n) Z.n) Y.n)
    have cI := (al.djn (ap.ltF.le bP))
    have es := ((((bl.ext Z).frS Y cH).ext ah).frS ai cI)
    have cJ := (am.djn (an.ltF.le bO))
    have cK := (al.djn (an.ltF.le bP))
    have et := ((((aW.ext Z).frS Y cJ).ext ah).frS ai cK)
    obtain rfl := oi_ ec
    exact bI bS _ _ lt_ ⟨aH, ad, (e + 1), (.slice bp bT bs), aE, a_, ha_, (fs_ O.wf ((fs_ O.wf ((fs_ O.wf ((fs_ O.wf (fr_ O.wf) aa ir_).extR V) U (au.fresh aa.n)).extR Z) Y (am.fresh dK)).extR ah) ai (al.fresh dL)), eq, es, et, (Inn.trans ir_ (Nat.le_refl _) ay)⟩
   have ed := ZM a7 bY
   refine Zg (dr _ _ (g_' (qs_ 2 ?_)))
   have dO := (t_ (t_ U.n Z.n) Y.n)
   have cL := (al.djn (aS.ltF.le dO))
   have eu := ((bm.ext ah).frS ai cL)
   refine lr_ 3 0 (i_ ((gt D e).1)) eu (lr_ 190 0 (.agg #[.int .u64 (ag + ((gt D e).2.1)), i_ (hops + 1), i_ 0]) bX ?_)
   have cM := (au.djn (aA.lt.le aO))
   have aP := (t_ (t_ (t_ (t_ (t_ (t_ af.n ab.n) ac.n) O.n) aa.n) V.n) U.n)
   have cN := (am.djn (aA.lt.le aP))
   have aQ := (t_ (t_ (t_ (t_ (t_ (t_ (t_ (t_ af.n ab.n) ac.n) O.n) aa.n) V.n) U.n) Z.n) Y.n)
   have cO := (al.djn (aA.lt.le aQ))
   have ev := ((((((((cd.fr O dn_).fr aa (Dj.app bx (Dj.app a1 bA))).ext V).fr U cM).ext Z).fr Y cN).ext ah).fr ai cO)
   have cP := (au.djn (az.ltF.le aO))
   have cQ := (am.djn (az.ltF.le aP))
   have cR := (al.djn (az.ltF.le aQ))
   have ew := ((((((((ce.frS O dn_).frS aa (Dj.app bw (Dj.app aZ bz))).ext V).frS U cP).ext Z).frS Y cQ).ext ah).frS ai cR)
   have dP := (t_ V.n U.n)
   have cS := (am.djn (aq.lt.le dP))
   have dQ := (t_ (t_ (t_ V.n U.n) Z.n) Y.n)
   have cT := (al.djn (aq.lt.le dQ))
   have ex := ((((((aq.ext V).fr U (au.djn aq.lt)).ext Z).fr Y cS).ext ah).fr ai cT)
   have cU := (am.djn (ap.ltF.le aP))
   have cV := (al.djn (ap.ltF.le aQ))
   have ey := ((((bl.ext Z).frS Y cU).ext ah).frS ai cV)
   have cW := (am.djn (an.ltF.le aP))
   have cX := (al.djn (an.ltF.le aQ))
   have ez := ((((aW.ext Z).frS Y cW).ext ah).frS ai cX)
   have aR := (t_ (t_ (t_ af.n ab.n) ac.n) O.n)
   have cY := (ay.dj c5 (ap.ltF.le aR))
   have cZ := (ay.dj c4 (an.ltF.le aR))
   have c0 := (ay.dj bA (aA.lt.le aR))
   have c3 := (ay.dj bz (az.ltF.le aR))
   obtain ⟨cf, dg, ee⟩ := bs_ ed
   refine ck_ (ZeM ai.wf ev ew ex ey ez a1 aZ (Dj.symm cY) bu cZ c0 bx c3 bw dg) ?_
   rintro _ eN ⟨eQ, c9, rfl, c6, dB, bJ, dC, di⟩
   obtain ⟨ci, dR, cn, rfl⟩ := bJ.form
   refine Za (bH _ _ (g_' ?_))
   obtain ⟨dc, ef⟩ := Zb ee
   refine w_' ((e + 1)) (Zo (by have := dc; omega)) (qs_ 1 (Za ?_))
   have dS := (t_ (t_ aa.n V.n) U.n)
   have dT := (t_ (t_ (t_ (t_ aa.n V.n) U.n) Z.n) Y.n)
   have dU := (t_ (t_ (t_ (t_ (t_ (t_ aa.n V.n) U.n) Z.n) Y.n) ah.n) ai.n)
   obtain rfl := oi_ ef
   exact bI bS _ _ lt_ ⟨cf.2, cf.1, (e + 1), (.slice ci dR cn), c9, a_, ha_, (fs_ O.wf (fs_ O.wf ((fs_ O.wf ((fs_ O.wf ((fs_ O.wf (fr_ O.wf) aa ir_).extR V) U (au.fresh aa.n)).extR Z) Y (am.fresh dS)).extR ah) ai (al.fresh dT)) c6 (Inn.app Inn.left (Inn.app (Inn.right Inn.left) (Inn.trans (Inn.right (Inn.right ir_)) (Nat.le_refl _) ay)))), bJ, dB, dC, (Inn.trans (Inn.trans ir_ (Nat.le_refl _) ay) dU di)⟩
  have eh := Zi aF aG
  refine ZH (Zj (Zj (ZT ?_)))
  obtain rfl := oi_ eh
  obtain rfl := Zv a_
  exact dz _ _ ⟨(.slice bp bT bs), aE, trivial, (fs_ O.wf (fr_ O.wf) aa ir_), bL, aq, bM, (Inn.trans ir_ (Nat.le_refl _) ay)⟩
 obtain ⟨bg, aJ, bE, c8, dD, bK, dE, dk⟩ := hM
 obtain ⟨β, rfl⟩ := Zk bE
 clear bE
 obtain ⟨cj, dV, co, rfl⟩ := bK.form
 refine Zfj (vs := []) (rfl) ?_
 have dW := (t_ (t_ (t_ af.n ab.n) ac.n) O.n)
 obtain rfl := oi_ em
 exact ⟨(.slice cj dV co), aJ, rfl, (fs_ ax (fs_ ax (fs_ ax (fs_ ax ((fr_ ax).extR af) ab (ao.fresh (Nat.le_refl _))) ac (Inn.right Inn.left)) O in_) c8 ir_), dD, bK, dE, (Inn.trans ir_ dW dk)⟩
theorem ZgP {H : AH} {O : Nat} {af : Nat} {a8 : Value} {aD : Fp} {a_ : Value} {ah : Fp} {D : Nat} {aK : List (Bool × List (Int × Int × Int) × List (Int × Int × Int))} {aL : Int} {aM : Int} {ai : Int} {aj : Int} {bs : List (Int × Int)} {bt : Int -> Option (Int × Int × Int)} {u : Int} {most : Int} {settles : Int} {r : (Int -> Option (Int × Int × Int)) × List (Int × Int)}
    (ae : WF H) (av : Nd Zc 3 H a8 aK aD []) (au : Row H af [a8, i_ aL, i_ aM]) (b5 : Ow ZB 2 H a_ bs ah) (aw : Ms .i64 ZU H D bt) (ar : Row H O [pt_ af 0, i_ ai, i_ aj, a_, .map (some D)]) (aB : Dj [D] aD) (aA : Dj [D] [af]) (a6 : Dj [D] ah) (ap : Dj [D] [O]) (a7 : Dj ah [O]) (aQ : Dj ah aD) (al : Dj [O] aD) (aP : Dj ah [af]) (ak : Dj [O] [af]) (bd : Zcp aK aL aM ai aj bs bt u most settles = some r) :
    ACalls Tryz.prog 81 #[pt_ O 0, i_ u, .int .u64 most, i_ settles] H fun v H' => ∃ (br : Value) (f6 : Fp), v = .tuple #[] /\ FrS ([O] ++ ([D] ++ ah)) H H' /\ Ms .i64 ZU H' D r.1 /\ Ow ZB 2 H' br r.2 f6 /\ Row H' O [pt_ af 0, i_ ai, i_ aj, br, .map (some D)] /\ Inn ah H f6 := by
 refine ab_ Tryz.func81 ?_
 unfold Zcp at bd
 refine sq_ fun cg => g_' (qs_ 3 ?_)
 obtain ⟨bw, b_, cK⟩ := bs_ bd
 refine ck_ (ZeM ae av au b5 aw ar aB aA a6 ap a7 aQ al aP ak b_) ?_
 rintro _ az ⟨c8, f15, rfl, e, cu, bi, cv, ad⟩
 obtain ⟨bD, cC, bJ, rfl⟩ := bi.form
 refine Za (cg _ _ (sq_ fun cj => g_' (qs_ 1 (l_' (i_ (max 0 settles)) (Zfr Tryz.prog [i_ 0, i_ settles]) (Ze8 _ _) (qs_ 1 (Za (cj _ _ ?_)))))))
 obtain ⟨bz, b9, bq⟩ := bs_ cK
 refine ZC (fun α am => ∃ aH, bz = Sum.inr aH /\ ∃ (aW : Value) (aC : Fp), Has α [] /\ FrS ([O] ++ ([D] ++ f15)) az am /\ Ms .i64 ZU am D aH.1 /\ Ow ZB 2 am aW aH.2 aC /\ Row am O [pt_ af 0, i_ ai, i_ aj, aW, .map (some D)] /\ Inn f15 az aC) (fun _ ck => ?_) (fun α am hM => ?_)
 ·refine Zl ?_
  obtain ⟨bm, b7⟩ := Zt.1 b9
  refine ZI (fun n α an => ∃ (aI : List (Int × Int)), ∃ (aJ : Int -> Option (Int × Int × Int)), ∃ (ag : Int), ∃ (aX : Value), ∃ (aq : Fp), ZO (fun zz_ => ZbG aK aL aM ai aj most settles zz_.1 zz_.2.1 zz_.2.2) n (aI, aJ, ag) = some bz /\ Has α [(0, pt_ O 0), (2, .int .u64 most), (16, i_ (max 0 settles)), (17, i_ ag)] /\ FrS ([O] ++ ([D] ++ f15)) az an /\ Ow ZB 2 an aX aI aq /\ Ms .i64 ZU an D aJ /\ Row an O [pt_ af 0, i_ ai, i_ aj, aX, .map (some D)] /\ Inn f15 az aq) bm ⟨bw.2, bw.1, 0, (.slice bD cC bJ), f15, b7, ha_, (fr_ e.wf), bi, cu, cv, ir_⟩ ?_
  rintro bm α an ⟨aI, aJ, ag, aX, aq, b6, bc, aa, ay, aF, bk, ac⟩ c7 cm
  obtain ⟨cD, c3, rfl, ax, aT⟩ := Zx b6
  obtain ⟨β, rfl⟩ := Zk bc
  clear bc
  replace ax : ZbG aK aL aM ai aj most settles aI aJ ag = some c3 := ax
  unfold ZbG at ax
  obtain ⟨bE, cE, bK, rfl⟩ := ay.form
  refine sn_ (sq_ fun cn => ?_)
  refine wc_ (ag < (max 0 settles)) (fun aS => ?_) fun aS => ?_
  ·have cQ := Ze aS ax
   refine Zg (cn _ _ (sq_ fun co => Zl (sq_ fun cp => g_' (qs_ 1 ?_))))
   have aZ := (ad.dj aQ av.lt)
   have bu := ((av.fr e (Dj.app al (Dj.app aB aQ))).fr aa (Dj.app al (Dj.app aB aZ)))
   have a1 := (ad.dj aP au.ltF)
   have bv := ((au.frS e (Dj.app ak (Dj.app aA aP))).frS aa (Dj.app ak (Dj.app aA a1)))
   have aN := (ac.dj aZ (av.lt.le e.n))
   have aO := (ac.dj a1 (au.ltF.le e.n))
   have bU := (ad.dj (Dj.symm a6) aw.ltF)
   have ao := (ac.dj bU (aw.ltF.le e.n))
   have bV := (ad.dj a7 ar.ltF)
   have a2 := (ac.dj bV (ar.ltF.le e.n))
   obtain ⟨U, cc, cR⟩ := bs_ cQ
   refine ck_ (Zgg aa.wf bu bv ay aF bk aN aO ao a2 (Dj.symm ap) al ak cc) ?_
   rintro _ c5 ⟨c_, rfl, V, aU, bl⟩
   obtain ⟨bF, cF, bL, rfl⟩ := aU.form
   refine qs_ 4 ?_
   refine rk_ V.wf [.int .u64 0, i_ 0, i_ 0] fun bG c6 Z ab cS => ?_
   refine qs_ 1 ?_
   obtain ⟨bA, cG, Y, bo⟩ := ra_ 190 0 Z.wf cS [.int .u64 U.2.1, i_ U.2.2.1, i_ U.2.2.2.1] [.int .u64 U.2.1, i_ U.2.2.1, i_ U.2.2.2.1]
   refine ek_ cG (qs_ 1 (Za (cp _ _ (sq_ fun ch => sq_ fun ci => ?_))))
   obtain ⟨bn, bf, bp⟩ := bs_ cR
   refine ZC (fun α aY => Has α [(0, pt_ O 0), (2, .int .u64 most), (8, i_ U.1), (9, pt_ bG 0), (16, i_ (max 0 settles)), (17, i_ ag), (32, .bool bn)] /\ bA = aY) (fun _ bg => ?_) (fun α aY hM => ?_)
   ·refine g_' (qs_ 1 (q_ (.bool (!U.2.2.2.2.1)) (q_ (.bool (!U.2.2.2.2.1)) ?_)))
    by_cases aE : (!U.2.2.2.2.1) = true
    ·have cH := Ze aE bf
     rw [aE]
     refine qs_ 5 (Za ?_)
     obtain rfl := oi_ cH
     exact bg _ _ ⟨ha_, rfl⟩
    have cI := Zi aE bf
    rw [nb aE]
    refine qs_ 1 (lr_ 61 0 (.int .u64 U.2.1) bo (qs_ 3 (Za ?_)))
    obtain rfl := oi_ cI
    exact bg _ _ ⟨ha_, rfl⟩
   obtain ⟨ba, rfl⟩ := hM
   obtain ⟨β, rfl⟩ := Zk ba
   clear ba
   refine ci _ _ ?_
   refine wb_ (bn) (fun aR => ?_) fun aR => ?_
   ·have cJ := Ze aR bp
    refine Zh (Zf (ZD (Zf (Zf (ZD (Zf ?_))))))
    obtain ⟨da, be, cd⟩ := map_some cJ
    subst cd
    obtain rfl := Zv aT
    have b8 := elim_inl bq
    rw [b8] at be
    refine Zac (vs := []) (rfl) ?_
    have aV := (t_ (t_ e.n aa.n) V.n)
    have bM := (ab.djn (aw.ltF.le aV))
    have cT := (((aF.frS V (Dj.app (Dj.symm ap) ao)).ext Z).frS Y bM)
    have bN := (ab.djn (ay.lt.le V.n))
    have cU := ((aU.ext Z).fr Y bN)
    have bO := (ab.djn (ar.ltF.le aV))
    have cV := ((bl.ext Z).frS Y bO)
    obtain rfl := oi_ be
    exact ⟨(.slice bF cF bL), aq, rfl, (fs_ ae ((fs_ ae (fs_ ae (fs_ ae (fr_ ae) e ir_) aa (Inn.app Inn.left (Inn.app (Inn.right Inn.left) (Inn.trans (Inn.right (Inn.right ir_)) (Nat.le_refl _) ad)))) V (Inn.app Inn.left (Inn.trans (Inn.trans (Inn.right (Inn.right ir_)) (Nat.le_refl _) ad) e.n ac))).extR Z) Y (ab.fresh aV)), cT, cU, cV, (Inn.trans (Inn.trans ir_ (Nat.le_refl _) ad) e.n ac)⟩
   have cL := ZM aR bp
   refine Zg (ch _ _ (g_' (qs_ 2 (lr_ 190 0 (.agg #[.int .u64 U.2.1, i_ U.2.2.1, i_ U.2.2.2.1]) bo ?_))))
   have aG := (t_ (t_ e.n aa.n) V.n)
   have bP := (ab.djn (av.lt.le aG))
   have cW := (((bu.fr V (Dj.app al aN)).ext Z).fr Y bP)
   have bQ := (ab.djn (au.ltF.le aG))
   have cX := (((bv.frS V (Dj.app ak aO)).ext Z).frS Y bQ)
   have bR := (ab.djn (ay.lt.le V.n))
   have cY := ((aU.ext Z).fr Y bR)
   have bS := (ab.djn (aw.ltF.le aG))
   have cZ := (((aF.frS V (Dj.app (Dj.symm ap) ao)).ext Z).frS Y bS)
   have bT := (ab.djn (ar.ltF.le aG))
   have c0 := ((bl.ext Z).frS Y bT)
   obtain ⟨bx, ca, cM⟩ := bs_ cL
   refine ck_ (ZfS Y.wf cW cX cY cZ c0 ap (Dj.symm ao) aB aA a2 aN al aO ak ao ca) ?_
   rintro _ c4 ⟨c9, bY, rfl, bW, cq, bh, cr, ce⟩
   obtain ⟨bB, cy, bH, rfl⟩ := bh.form
   refine Za (co _ _ (g_' ?_))
   obtain ⟨bZ, cN⟩ := Zb cM
   refine w_' ((ag + 1)) (Zo bZ) (qs_ 1 (Za ?_))
   have cz := (t_ aa.n V.n)
   have cA := (t_ (t_ (t_ aa.n V.n) Z.n) Y.n)
   obtain rfl := oi_ cN
   exact cm cD _ _ lt_ ⟨bx.2, bx.1, (ag + 1), (.slice bB cy bH), bY, aT, ha_, (fs_ e.wf (fs_ e.wf ((fs_ e.wf (fs_ e.wf (fr_ e.wf) aa ir_) V (Inn.app Inn.left (Inn.trans (Inn.right (Inn.right ir_)) (Nat.le_refl _) ac))).extR Z) Y (ab.fresh cz)) bW (Inn.app Inn.left (Inn.app (Inn.right Inn.left) (Inn.trans (Inn.right (Inn.right ir_)) (Nat.le_refl _) ac)))), bh, cq, cr, (Inn.trans (Inn.trans ir_ (Nat.le_refl _) ac) cA ce)⟩
  have cO := Zi aS ax
  refine ZH (Zj (Zj (ZT ?_)))
  obtain rfl := oi_ cO
  obtain rfl := Zv aT
  exact ck _ _ ⟨_, rfl, (.slice bE cE bK), aq, trivial, (fs_ e.wf (fr_ e.wf) aa ir_), aF, ay, bk, (Inn.trans ir_ (Nat.le_refl _) ac)⟩
 obtain ⟨aH, rfl, aW, aC, bb, bX, cw, bj, cx, cf⟩ := hM
 have cP := elim_inr bq
 obtain ⟨β, rfl⟩ := Zk bb
 clear bb
 obtain ⟨bC, cB, bI, rfl⟩ := bj.form
 refine Zfj (vs := []) (rfl) ?_
 obtain rfl := oi_ cP
 exact ⟨(.slice bC cB bI), aC, rfl, (fs_ ae (fs_ ae (fr_ ae) e ir_) bX (Inn.app Inn.left (Inn.app (Inn.right Inn.left) (Inn.trans (Inn.right (Inn.right ir_)) (Nat.le_refl _) ad)))), cw, bj, cx, (Inn.trans (Inn.trans ir_ (Nat.le_refl _) ad) e.n cf)⟩
end Go.Vd

/-! (KSc3) -/

set_option maxRecDepth 100000
set_option maxHeartbeats 4000000
set_option linter.unusedVariables false
namespace Go.Vd
open Go.Proofs
attribute [local irreducible] Zp Zq aWp
theorem Zh5 {H : AH} {ah : Nat} {aY : Value} {bQ : Fp} {ae : Value} {bP : Fp} {aA : List (Bool × List (Int × Int × Int) × List (Int × Int × Int))} {aB : Int} {aC : Int} {u : Int} {skip : Int} {goals : List (Int)} {most : Int} {hops : Int} {settles : Int} {r : List (Int) × Er}
    (Y : WF H) (al : Nd Zc 3 H aY aA bQ []) (ak : Row H ah [aY, i_ aB, i_ aC]) (ad : Sq (Zai .i64) 1 H ae goals bP) (bb : Zdg aA aB aC u skip goals most hops settles = some r) :
    ACalls Tryz.prog 64 #[pt_ ah 0, i_ u, i_ skip, ae, .int .u64 most, i_ hops, i_ settles] H fun v H' => ∃ (bu : Value) (aF : Fp) (bz : Value) (aG : Fp), v = .tuple #[bu, bz] /\ FrS [] H H' /\ Ow (Zai .u64) 1 H' bu r.1 aF /\ Ev 48 82 H' bz r.2 aG /\ Inn [] H aF /\ Inn [] H aG /\ Dj aF aG := by
 refine ab_ Tryz.func64 ?_
 unfold Zdg at bb
 refine sn_ (sq_ fun cj => sn_ ?_)
 refine wb_ false (fun h => by cases h) fun _ => ?_
 refine Zg (cj _ _ (sq_ fun cm => sq_ fun cp => g_' (qs_ 2 ?_)))
 obtain ⟨dn, ca, br⟩ := bs_ bb
 refine ck_ (ZZ Y al ak ca) ?_
 rintro _ _ ⟨rfl, rfl⟩
 refine qs_ 1 (Za (cp _ _ ?_))
 refine wb_ ((!dn)) (fun aI => ?_) fun aI => ?_
 ·have c0 := Ze aI br
  refine sn_ ?_
  refine Zh (Zf ?_)
  refine br_ [.slice none 0 0, .iface 48 (i_ 7)] ?_
  obtain rfl := oi_ c0
  exact ⟨(.slice none 0 0), [], (.iface 48 (i_ 7)), [], rfl, (f0_ Y), (Ow.nil (by decide)), Ev.no, in_, in_, dn_⟩
 have c5 := ZM aI br
 refine Zg (cm _ _ (sq_ fun cr => sq_ fun cu => g_' (qs_ 1 (ad.ln_ 26 (qs_ 1 (Za (cu _ _ ?_)))))))
 obtain ⟨bA, b9, bs⟩ := bs_ c5
 refine ZC (fun α aO => ∃ bp, bA = Sum.inr bp /\ Has α [(0, pt_ ah 0), (1, i_ u), (2, i_ skip), (3, ae), (4, .int .u64 most), (5, i_ hops), (6, i_ settles)] /\ H = aO) (fun _ cv => ?_) (fun α aO hM => ?_)
 ·refine Zl ?_
  obtain ⟨bn, b6⟩ := Zt.1 b9
  refine ZI (fun n α aP => ∃ (aa : Int), ZO (fun zz_ => ZcI aA aB aC goals zz_) n aa = some bA /\ Has α [(0, pt_ ah 0), (1, i_ u), (2, i_ skip), (3, ae), (4, .int .u64 most), (5, i_ hops), (6, i_ settles), (33, ae), (34, i_ (goals.length : Int)), (35, i_ aa)] /\ H = aP) bn ⟨0, b6, ha_, rfl⟩ ?_
  rintro bn α aP ⟨aa, bZ, a6, rfl⟩ dD cw
  obtain ⟨cM, dr, rfl, ao, aL⟩ := Zx bZ
  obtain ⟨β, rfl⟩ := Zk a6
  clear a6
  replace ao : ZcI aA aB aC goals aa = some dr := ao
  unfold ZcI at ao
  refine sn_ (sq_ fun cx => ?_)
  refine wc_ (aa < (goals.length : Int)) (fun aj => ?_) fun aj => ?_
  ·have c6 := Ze aj ao
   refine Zg (cx _ _ (sq_ fun cy => Zl (sq_ fun cz => g_' (qs_ 1 ?_))))
   obtain ⟨aX, c7⟩ := Zb c6
   refine ad.ix_ 26 aX aj (le_ 3 0 (i_ (gt goals aa)) ad aX aj (qs_ 2 (Za (cz _ _ (sq_ fun cA => g_' (qs_ 2 ?_))))))
   obtain ⟨dp, cc, bt⟩ := bs_ c7
   refine ck_ (ZZ Y al ak cc) ?_
   rintro _ _ ⟨rfl, rfl⟩
   refine qs_ 1 (Za (cA _ _ ?_))
   refine wb_ ((!dp)) (fun aJ => ?_) fun aJ => ?_
   ·have c8 := Ze aJ bt
    refine sq_ fun cB => g_' (qs_ 2 ?_)
    obtain ⟨d0, cd, c9⟩ := bs_ c8
    refine ck_ (Zh1 Y (Ev.no (tf := 82)) cd) ?_
    rintro bx dz ⟨_, bO, rfl, bL, cH, cg⟩
    refine qs_ 2 (Za (cB _ _ ?_))
    refine Zh (ZD (Zf (Zf (ZD (Zf (Zf ?_))))))
    obtain ⟨dZ, bc, ce⟩ := map_some c9
    subst ce
    obtain rfl := Zv aL
    have b7 := elim_inl bs
    rw [b7] at bc
    refine br_ [.slice none 0 0, bx] ?_
    obtain rfl := oi_ bc
    exact ⟨(.slice none 0 0), [], (bx), bO, rfl, (fs_ Y (f0_ Y) bL in_), (Ow.nil (by decide)), cH, in_, (cg.fresh (Nat.le_refl _)), dn_⟩
   have c_ := ZM aJ bt
   refine Zg (cy _ _ (g_' ?_))
   obtain ⟨bV, da⟩ := Zb c_
   refine w_' ((aa + 1)) (Zo (by have := bV; omega)) (qs_ 1 (Za ?_))
   obtain rfl := oi_ da
   exact cw cM _ _ lt_ ⟨(aa + 1), aL, ha_, rfl⟩
  have db := Zi aj ao
  refine ZH (Zj (Zj (ZT ?_)))
  obtain rfl := oi_ db
  obtain rfl := Zv aL
  exact cv _ _ ⟨_, rfl, ha_, rfl⟩
 obtain ⟨bp, rfl, a2, rfl⟩ := hM
 have dc := elim_inr bs
 obtain ⟨β, rfl⟩ := Zk a2
 clear a2
 refine cr _ _ (sq_ fun cC => g_' (qs_ 3 ?_))
 refine s_ms .i64 ZU Y (by kernel_rfl) fun aE dA V az bh => ?_
 refine qs_ 1 ?_
 refine rl_ V.wf [pt_ ah 0, i_ skip, i_ hops, .slice none 0 0, .map (some aE)] fun bC dB ac am dd => ?_
 refine qs_ 1 (Za (cC _ _ (sq_ fun cD => g_' (qs_ 4 ?_))))
 have di := ((al.ext V).ext ac)
 have dk := ((ak.ext V).ext ac)
 have dm := (bh.ext ac)
 have bE := (am.djn bh.ltF)
 have bF := (am.djn (al.lt.le V.n))
 have bG := (am.djn (ak.ltF.le V.n))
 obtain ⟨D, b_, cQ⟩ := bs_ dc
 refine ck_ (ZgP ac.wf di dk (Ow.nil (enc := ZB) (sz := 2) (by decide)) dm dd (az.djn al.lt) (az.djn ak.ltF) Dj.nil_r (Dj.symm bE) dn_ dn_ bF dn_ bG b_) ?_
 rintro _ aq ⟨dU, dL, rfl, O, cE, cF, cG, dQ⟩
 obtain ⟨dE, dR, dI, rfl⟩ := cF.form
 refine Za (cD _ _ (sn_ (sq_ fun ch => sq_ fun ci => g_' (qs_ 1 ?_))))
 have bH := (am.djn (ad.lt.le V.n))
 have bv := (((ad.ext V).ext ac).fr O (Dj.app bH (Dj.app (az.djn ad.lt) dn_)))
 refine bv.ln_ 26 (qs_ 1 (Za (ci _ _ ?_)))
 obtain ⟨bo, b8, cR⟩ := bs_ cQ
 refine ZC (fun α aD => ∃ (aM : Value) (aw : Fp), Has α [(19, aM)] /\ FrS [] aq aD /\ Ow (Zai .u64) 1 aD aM bo aw /\ Inn [] aq aw) (fun _ ck => ?_) (fun α aD hM => ?_)
 ·refine Zl ?_
  obtain ⟨bi, b5⟩ := Zt.1 b8
  refine ZI (fun n α ar => ∃ (af : List (Int)), ∃ (e : Int), ∃ (aN : Value), ∃ (ax : Fp), ZO (fun zz_ => ZcH goals D zz_.1 zz_.2) n (af, e) = some bo /\ Has α [(18, pt_ bC 0), (19, aN), (59, ae), (60, i_ (goals.length : Int)), (61, i_ e)] /\ FrS [] aq ar /\ Ow (Zai .u64) 1 ar aN af ax /\ Inn [] aq ax) bi ⟨[], 0, (.slice none 0 0), [], b5, ha_, (fr_ O.wf), (Ow.nil (by decide)), in_⟩ ?_
  rintro bi α ar ⟨af, e, aN, ax, bY, a1, U, ag, ap⟩ dC bd
  obtain ⟨bj, dq, rfl, an, aK⟩ := Zx bY
  obtain ⟨β, rfl⟩ := Zk a1
  clear a1
  replace an : ZcH goals D af e = some dq := an
  unfold ZcH at an
  obtain ⟨bB, cI, bD, rfl⟩ := ag.form
  refine sn_ (sq_ fun cn => ?_)
  refine wc_ (e < (goals.length : Int)) (fun ai => ?_) fun ai => ?_
  ·have cS := Ze ai an
   refine Zg (cn _ _ (sq_ fun be => Zl (sq_ fun co => g_' ?_)))
   obtain ⟨aW, bq⟩ := Zb cS
   have bw := (bv.fr U dn_)
   refine bw.ix_ 26 aW ai (le_ 3 0 (i_ (gt goals e)) bw aW ai (qs_ 1 (Za (co _ _ (sn_ (sq_ fun bf => sq_ fun cq => g_' (qs_ 3 ?_)))))))
   have de := (cG.frS U dn_)
   refine lr_ 183 4 (.map (some aE)) de (qs_ 1 ?_)
   have df := (cE.frS U dn_)
   refine l_' (.tuple #[.agg #[.int .u64 (((D.1 (gt goals e)).getD ((0, 0, 0) : Int × Int × Int)).1), i_ (((D.1 (gt goals e)).getD ((0, 0, 0) : Int × Int × Int)).2.1), i_ (((D.1 (gt goals e)).getD ((0, 0, 0) : Int × Int × Int)).2.2)], .bool ((D.1 (gt goals e)).isSome)]) (Zdj Tryz.prog 183 (.map (some aE)) (i_ (gt goals e)) true ar) (df.look2 ((0, 0, 0) : Int × Int × Int) (zv := .agg #[.int .u64 0, i_ 0, i_ 0]) rfl (by kernel_rfl) (by kernel_rfl) _ rfl) (qs_ 3 ?_)
   refine rk_ U.wf [.int .u64 0, i_ 0, i_ 0] fun dH dt ab ay cT => ?_
   obtain ⟨du, cN, Z, cU⟩ := ra_ 190 0 ab.wf cT [.int .u64 (((D.1 (gt goals e)).getD ((0, 0, 0) : Int × Int × Int)).1), i_ (((D.1 (gt goals e)).getD ((0, 0, 0) : Int × Int × Int)).2.1), i_ (((D.1 (gt goals e)).getD ((0, 0, 0) : Int × Int × Int)).2.2)] [.int .u64 (((D.1 (gt goals e)).getD ((0, 0, 0) : Int × Int × Int)).1), i_ (((D.1 (gt goals e)).getD ((0, 0, 0) : Int × Int × Int)).2.1), i_ (((D.1 (gt goals e)).getD ((0, 0, 0) : Int × Int × Int)).2.2)]
   refine ek_ cN (qs_ 1 (Za (cq _ _ (sn_ ?_))))
   refine wb_ ((D.1 (gt goals e)).isSome) (fun aH => ?_) fun aH => ?_
   ·have cV := Ze aH bq
    refine g_' (qs_ 1 (lr_ 61 0 (.int .u64 (((D.1 (gt goals e)).getD ((0, 0, 0) : Int × Int × Int)).1)) cU (qs_ 1 (Za (bf _ _ (g_' (qs_ 2 ?_)))))))
    refine Zbo (enc := (Zai .u64)) (sz := 1) Z.wf [((D.1 (gt goals e)).getD ((0, 0, 0) : Int × Int × Int)).1] 1 (by decide) (fun _ _ => rfl) (fun _ _ => rfl) rfl (by kernel_rfl) fun dV dM dv au dO a7 => ?_
    obtain ⟨dF, dS, dJ, rfl⟩ := a7.form
    have dg := (((ag.ext ab).fr Z (ay.djn ag.lt)).ext au)
    obtain ⟨bR, cW⟩ := Zb cV
    obtain ⟨dW, dw, bM, cO, bJ, a8, bW⟩ := Ow.append (P := Tryz.prog) 8 au.wf dg a7.sq (fun _ _ => rfl) (at_ := #[135, 135]) rfl rfl (by kernel_rfl) (by kernel_rfl) (by decide) (by have := bR; first | omega | (simp only [List.length_cons, List.length_nil] at this ⊢; omega) | (simp at this ⊢; omega))
    obtain ⟨aQ, bk, aT, rfl⟩ := a8.form
    refine ZaL (.slice aQ bk aT) (by kernel_rfl) (cO) ?_
    refine qs_ 1 (Za (be _ _ (g_' ?_)))
    obtain ⟨bS, cX⟩ := Zb cW
    refine w_' ((e + 1)) (Zo (by have := bS; omega)) (qs_ 1 (Za ?_))
    have cJ := (t_ (t_ (t_ U.n ab.n) Z.n) au.n)
    obtain rfl := oi_ cX
    exact bd bj _ _ lt_ ⟨(af ++ [((D.1 (gt goals e)).getD ((0, 0, 0) : Int × Int × Int)).1]), (e + 1), (.slice aQ bk aT), bM, aK, ha_, (fs_ O.wf ((fs_ O.wf ((fs_ O.wf (fr_ O.wf) U in_).extR ab) Z (ay.fresh U.n)).extR au) bJ (ap.fresh (Nat.le_refl _))), a8, (Inn.trans (ap.fresh (Nat.le_refl _)) cJ bW)⟩
   have cY := ZM aH bq
   refine Zg (bf _ _ (g_' (qs_ 2 ?_)))
   refine Zbo (enc := (Zai .u64)) (sz := 1) Z.wf [18446744073709551615] 1 (by decide) (fun _ _ => rfl) (fun _ _ => rfl) rfl (by kernel_rfl) fun dX dN dx av dP a_ => ?_
   obtain ⟨dG, dT, dK, rfl⟩ := a_.form
   have dh := (((ag.ext ab).fr Z (ay.djn ag.lt)).ext av)
   obtain ⟨bT, cZ⟩ := Zb cY
   obtain ⟨dY, dy, bN, cP, bK, ba, bX⟩ := Ow.append (P := Tryz.prog) 8 av.wf dh a_.sq (fun _ _ => rfl) (at_ := #[135, 135]) rfl rfl (by kernel_rfl) (by kernel_rfl) (by decide) (by have := bT; first | omega | (simp only [List.length_cons, List.length_nil] at this ⊢; omega) | (simp at this ⊢; omega))
   obtain ⟨aR, bl, aU, rfl⟩ := ba.form
   refine ZaL (.slice aR bl aU) (by kernel_rfl) (cP) ?_
   refine qs_ 1 (Za (be _ _ (g_' ?_)))
   obtain ⟨bU, c3⟩ := Zb cZ
   refine w_' ((e + 1)) (Zo (by have := bU; omega)) (qs_ 1 (Za ?_))
   have cK := (t_ (t_ (t_ U.n ab.n) Z.n) av.n)
   obtain rfl := oi_ c3
   exact bd bj _ _ lt_ ⟨(af ++ [18446744073709551615]), (e + 1), (.slice aR bl aU), bN, aK, ha_, (fs_ O.wf ((fs_ O.wf ((fs_ O.wf (fr_ O.wf) U in_).extR ab) Z (ay.fresh U.n)).extR av) bK (ap.fresh (Nat.le_refl _))), ba, (Inn.trans (ap.fresh (Nat.le_refl _)) cK bX)⟩
  have c4 := Zi ai an
  refine ZH (Zj (Zj (ZT ?_)))
  obtain rfl := oi_ c4
  obtain rfl := Zv aK
  exact ck _ _ ⟨(.slice bB cI bD), ax, ha_, (fs_ O.wf (fr_ O.wf) U in_), ag, (ap.fresh (Nat.le_refl _))⟩
 obtain ⟨aM, aw, aZ, bI, bg, cf⟩ := hM
 obtain ⟨β, rfl⟩ := Zk aZ
 clear aZ
 obtain ⟨aS, bm, aV, rfl⟩ := bg.form
 refine ch _ _ (sn_ ?_)
 refine Zh ?_
 refine br_ [.slice aS bm aV, .nilIface] ?_
 have cL := (t_ (t_ V.n ac.n) O.n)
 obtain rfl := oi_ cR
 exact ⟨(.slice aS bm aV), aw, (.nilIface), [], rfl, (fs_ Y (fs_ Y (((f0_ Y).extR V).extR ac) O (Inn.app (am.fresh V.n) (Inn.app (az.fresh (Nat.le_refl _)) in_))) bI in_), bg, Ev.nil, (cf.fresh cL), in_, Dj.nil_r⟩
theorem Ze4 {H : AH} {e : Int} {O : Int} {D : Int} {U : Int} {r : Int}
    (Y : WF H) (V : ZcW e O D U = some r) :
    ACalls Tryz.prog 84 #[.agg #[i_ e, .int .u64 O, i_ D], i_ U] H fun v H' => v = i_ r /\ FrS [] H H' := by
 refine ab_ Tryz.func84 ?_
 unfold ZcW at V
 refine sq_ fun k1 => g_' ?_
 refine rl_ Y [i_ e, .int .u64 O, i_ D] fun b2 ac Z ad ab => ?_
 refine qs_ 1 (Za (k1 _ _ (sq_ fun aa => g_' (qs_ 1 (lr_ 3 0 (i_ e) ab (qs_ 3 (Za (aa _ _ ?_))))))))
 refine Zh ?_
 refine br_ [i_ (IntKind.i64.wrap (e - U))] ?_
 obtain rfl := oi_ V
 exact ⟨rfl, ((f0_ Y).extR Z)⟩
theorem ZeY {H : AH} {ac : Value} {az : Fp} {x : List (Int × Int × Int)} {target : Int} {r : Int × Bool}
    (O : WF H) (af : Sq Zc 3 H ac x az) (an : ZbO x target = some r) :
    ACalls Tryz.prog 83 #[ac, i_ target, .func (.func 84) #[] #[]] H fun v H' => v = .tuple #[i_ r.1, .bool r.2] /\ FrS [] H H' := by
 refine ab_ Tryz.func83 ?_
 unfold ZbO at an
 refine sn_ (sq_ fun k2 => g_' (qs_ 1 (af.ln_ 92 (qs_ 1 (Za (k2 _ _ (sn_ (sq_ fun aN => ?_))))))))
 obtain ⟨U, aG, av⟩ := bs_ an
 refine ZC (fun α ai => Has α [(0, ac), (1, i_ target), (2, .func (.func 84) #[] #[]), (8, i_ (x.length : Int)), (9, i_ U)] /\ FrS [] H ai) (fun _ aJ => ?_) (fun α ai hM => ?_)
 ·refine Zl ?_
  obtain ⟨aq, aF⟩ := Zt.1 aG
  refine ZI (fun n α ah => ∃ (D : Int), ∃ (e : Int), ZO (fun zz_ => Zar x target zz_.1 zz_.2) n (D, e) = some U /\ Has α [(0, ac), (1, i_ target), (2, .func (.func 84) #[] #[]), (8, i_ (x.length : Int)), (9, i_ e), (10, i_ D)] /\ FrS [] H ah) aq ⟨(x.length : Int), 0, aF, ha_, (f0_ O)⟩ ?_
  rintro aq α ah ⟨D, e, aE, am, V⟩ ba ao
  obtain ⟨ar, a7, rfl, Z, ag⟩ := Zx aE
  obtain ⟨β, rfl⟩ := Zk am
  clear am
  replace Z : Zar x target D e = some a7 := Z
  unfold Zar at Z
  refine sq_ fun aK => sn_ ?_
  refine wc_ (e < D) (fun ad => ?_) fun ad => ?_
  ·have aO := Ze ad Z
   refine Zg (aK _ _ (Zl (sq_ fun aL => g_' (qs_ 2 ?_))))
   obtain ⟨aA, aP⟩ := Zb aO
   refine w_' ((e + D)) (Zo aA) ?_
   obtain ⟨aB, aQ⟩ := Zb aP
   refine s_w ((e + D)) (k := .u64) (x := (e + D)) (by kernel_rfl) (ZdA aB) ?_
   refine l_' (.int .u64 ((e + D) / 2)) (some (.int .u64 (Int.fdiv (e + D) 2))) (by rw [Int.fdiv_eq_ediv_of_nonneg _ (by decide)]) ?_
   obtain ⟨aC, aR⟩ := Zb aQ
   refine w_' (((e + D) / 2)) (Zo aC) (qs_ 1 (Za (aL _ _ (sq_ fun aM => g_' (qs_ 3 ?_)))))
   obtain ⟨ab, aS⟩ := Zb aR
   have aw := (af.fr V dn_)
   refine aw.ix_ 92 ab.1 ab.2 (le_ 98 0 (.agg #[i_ ((gt x ((e + D) / 2)).1), .int .u64 ((gt x ((e + D) / 2)).2.1), i_ ((gt x ((e + D) / 2)).2.2)]) aw ab.1 ab.2 (qs_ 1 ?_))
   obtain ⟨a2, aH, au⟩ := bs_ aS
   refine ck_ (Ze4 V.wf aH) ?_
   rintro _ a8 ⟨rfl, aj⟩
   refine qs_ 1 (Za (aM _ _ ?_))
   refine wc_ (a2 < 0) (fun ae => ?_) fun ae => ?_
   ·have aT := Ze ae au
    refine g_' (qs_ 1 ?_)
    obtain ⟨aD, aU⟩ := Zb aT
    refine w_' ((((e + D) / 2) + 1)) (Zo (by have := aD; omega)) (qs_ 1 (Za ?_))
    obtain rfl := oi_ aU
    exact ao ar _ _ lt_ ⟨D, (((e + D) / 2) + 1), ag, ha_, (fs_ O (fs_ O (f0_ O) V in_) aj in_)⟩
   have aV := Zi ae au
   refine g_' (qs_ 2 (Za ?_))
   obtain rfl := oi_ aV
   exact ao ar _ _ lt_ ⟨((e + D) / 2), e, ag, ha_, (fs_ O (fs_ O (f0_ O) V in_) aj in_)⟩
  have aW := Zi ad Z
  refine ZH (Zj (Zj (ZT ?_)))
  obtain rfl := oi_ aW
  obtain rfl := Zv ag
  exact aJ _ _ ⟨ha_, (fs_ O (f0_ O) V in_)⟩
 obtain ⟨al, aa⟩ := hM
 obtain ⟨β, rfl⟩ := Zk al
 clear al
 refine aN _ _ (sq_ fun ap => g_' (qs_ 3 ?_))
 refine sb_ (U < (x.length : Int)) (fun Y => ?_) fun Y => ?_
 ·have aX := Ze Y av
  refine qs_ 4 ?_
  obtain ⟨ak, aY⟩ := Zb aX
  have ax := (af.fr aa dn_)
  refine ax.ix_ 92 ak Y (le_ 98 0 (.agg #[i_ ((gt x U).1), .int .u64 ((gt x U).2.1), i_ ((gt x U).2.2)]) ax ak Y (qs_ 1 ?_))
  obtain ⟨a6, aI, aZ⟩ := bs_ aY
  refine ck_ (Ze4 aa.wf aI) ?_
  rintro _ a_ ⟨rfl, ay⟩
  refine qs_ 4 (Za (ap _ _ ?_))
  refine Zh ?_
  refine br_ [i_ U, .bool (decide (a6 = 0))] ?_
  obtain rfl := oi_ aZ
  exact ⟨rfl, (fs_ O (fs_ O (f0_ O) aa in_) ay in_)⟩
 have a1 := Zi Y av
 refine qs_ 12 (Za (ap _ _ ?_))
 refine Zh ?_
 refine br_ [i_ U, .bool false] ?_
 obtain rfl := oi_ a1
 exact ⟨rfl, (fs_ O (f0_ O) aa in_)⟩
theorem Zey {H : AH} {D : Value} {Z : Fp} {l : List (Int × Int × Int)} {U : Int} {r : Int × Bool}
    (e : WF H) (aa : Sq Zc 3 H D l Z) (O : Zch l U = some r) :
    ACalls Tryz.prog 67 #[D, i_ U] H fun v H' => v = .tuple #[i_ r.1, .bool r.2] /\ FrS [] H H' := by
 refine ab_ Tryz.func67 ?_
 unfold Zch at O
 refine sn_ (sq_ fun k2 => g_' (qs_ 2 ?_))
 obtain ⟨V, ab, ac⟩ := bs_ O
 refine ck_ (ZeY e aa ab) ?_
 rintro _ ad ⟨rfl, Y⟩
 refine qs_ 4 (Za (k2 _ _ ?_))
 refine Zh ?_
 refine br_ [i_ V.1, .bool V.2] ?_
 obtain rfl := oi_ ac
 exact ⟨rfl, (fs_ e (f0_ e) Y in_)⟩
theorem ZdI {H : AH} {al : Nat} {D : Value} {ae : Fp} {V : List (Bool × List (Int × Int × Int) × List (Int × Int × Int))} {ao : Int} {ap : Int} {u : Int} {w : Int} {r : Int × Bool}
    (O : WF H) (Y : Nd Zc 3 H D V ae []) (ah : Row H al [D, i_ ao, i_ ap]) (am : Zav V ao ap u w = some r) :
    ACalls Tryz.prog 43 #[pt_ al 0, i_ u, i_ w] H fun v H' => v = .tuple #[.int .u64 r.1, .bool r.2] /\ FrS [] H H' := by
 refine ab_ Tryz.func43 ?_
 unfold Zav at am
 refine sn_ (sq_ fun k2 => sq_ fun k3 => g_' (qs_ 2 ?_))
 obtain ⟨aP, aB, ar⟩ := bs_ am
 refine ck_ (ZZ O Y ah aB) ?_
 rintro _ _ ⟨rfl, rfl⟩
 refine qs_ 1 (Za (k3 _ _ ?_))
 refine wb_ ((!aP)) (fun ag => ?_) fun ag => ?_
 ·have aG := Ze ag ar
  refine sn_ ?_
  refine Zh (Zf ?_)
  refine br_ [.int .u64 0, .bool false] ?_
  obtain rfl := oi_ aG
  exact ⟨rfl, (f0_ O)⟩
 have aH := ZM ag ar
 refine Zg (k2 _ _ (sq_ fun aC => g_' (qs_ 3 (lr_ 102 0 (D) ah (qs_ 1 ?_)))))
 obtain ⟨e, aI⟩ := Zb aH
 refine Y.ix_ 102 e.1 e.2 (l_' (elp D 3 u.toNat 1) (Zy Tryz.prog 108 (elp D 3 u.toNat 0) 1) (Nd.fldq (d := 1) Y e.1 e.2 (by kernel_rfl)) ?_)
 obtain ⟨aM, aQ, ay, aw⟩ := Nd.at Y e.1 e.2
 have an : KdS Zc 3 H aM ((gt V u).2.1) ae D 3 u.toNat 1 := aw false (by simp)
 obtain ⟨au, aF, av, rfl⟩ := an.sq.form
 refine l_' (.slice au aF av) (aL_ 92 (elp D 3 u.toNat 1) H) (ay _ _ _ _ (by kernel_rfl)) (qs_ 1 ?_)
 obtain ⟨Z, aA, aq⟩ := bs_ aI
 refine ck_ (Zey O an.sq aA) ?_
 rintro _ ak ⟨rfl, aa⟩
 refine qs_ 5 (Za (aC _ _ (sq_ fun aD => sn_ ?_)))
 refine wb_ ((!Z.2)) (fun af => ?_) fun af => ?_
 ·have aJ := Ze af aq
  refine sn_ ?_
  refine Zh (Zf ?_)
  refine br_ [.int .u64 0, .bool false] ?_
  obtain rfl := oi_ aJ
  exact ⟨rfl, (fs_ O (f0_ O) aa in_)⟩
 have aK := ZM af aq
 refine Zg (aD _ _ (sq_ fun aE => g_' (qs_ 3 ?_)))
 have aN := (ah.frS aa dn_)
 refine lr_ 102 0 (D) aN (qs_ 1 ?_)
 have aj := (Y.fr aa dn_)
 refine aj.ix_ 102 e.1 e.2 (l_' (elp D 3 u.toNat 1) (Zy Tryz.prog 108 (elp D 3 u.toNat 0) 1) (Nd.fldq (d := 1) aj e.1 e.2 (by kernel_rfl)) ?_)
 obtain ⟨aO, aR, az, ax⟩ := Nd.at aj e.1 e.2
 have ab : KdS Zc 3 ak aO ((gt V u).2.1) ae D 3 u.toNat 1 := ax false (by simp)
 obtain ⟨ac, ai, ad, rfl⟩ := ab.sq.form
 refine l_' (.slice ac ai ad) (aL_ 92 (elp D 3 u.toNat 1) ak) (az _ _ _ _ (by kernel_rfl)) (qs_ 1 ?_)
 obtain ⟨U, aL⟩ := Zb aK
 refine ab.sq.ix_ 92 U.1 U.2 (l_' (elp (.slice ac ai ad) 3 Z.1.toNat 1) (Zy Tryz.prog 98 (elp (.slice ac ai ad) 3 Z.1.toNat 0) 1) (Sq.fldq (d := 1) ab.sq U.1 U.2 (by kernel_rfl)) (le_ 61 1 (.int .u64 ((gt ((gt V u).2.1) Z.1).2.1)) ab.sq U.1 U.2 (qs_ 2 (Za (aE _ _ ?_)))))
 refine Zh ?_
 refine br_ [.int .u64 ((gt ((gt V u).2.1) Z.1).2.1), .bool true] ?_
 obtain rfl := oi_ aL
 exact ⟨rfl, (fs_ O (f0_ O) aa in_)⟩
theorem ZiN {H : AH} {az : Nat} {bU : Value} {c7 : Fp} {bi : Value} {c8 : Fp} {aY : List (Bool × List (Int × Int × Int) × List (Int × Int × Int))} {aZ : Int} {a1 : Int} {af : Int} {Z : Int} {bb : Int} {a6 : Int} {out : List (Int × Int × Int)} {hops : Int} {settles : Int} {r : List (Int × Int × Int)}
    (aj : WF H) (bT : Nd Zc 3 H bU aY c7 []) (bS : Row H az [bU, i_ aZ, i_ a1]) (dn : Sq Zc 3 H bi out c8) (cd : Zdz aY aZ a1 af Z bb a6 out hops settles = some r) :
    ACalls Tryz.prog 39 #[pt_ az 0, .agg #[i_ af, .int .u64 Z, i_ bb], i_ a6, bi, i_ hops, i_ settles] H fun v H' => ∃ (cF : Value) (bP : Fp), v = cF /\ FrS [] H H' /\ Ow ZA 3 H' cF r bP /\ Inn [] H bP := by
 refine ab_ Tryz.func39 ?_
 unfold Zdz at cd
 refine sq_ fun dP => g_' ?_
 refine rl_ aj [i_ af, .int .u64 Z, i_ bb] fun bF au Y fI a2 => ?_
 refine qs_ 1 (Za (dP _ _ (sn_ (sn_ (sn_ (sq_ fun dC => sq_ fun dF => g_' (qs_ 1 ?_)))))))
 have cI := (dn.ext Y)
 refine cI.ln_ 92 (qs_ 1 (Za (dF _ _ ?_)))
 obtain ⟨D, dw, cz⟩ := bs_ cd
 refine ZC (fun α aK => ∃ (br : Value) (f27 : Fp) (bs : Value) (aS : Fp), Has α [(0, pt_ az 0), (2, i_ a6), (4, i_ hops), (5, i_ settles), (7, pt_ bF 0), (13, br), (14, bs), (15, .int .u64 D.2.2)] /\ FrS [] au aK /\ Ow ZA 3 aK br D.1 f27 /\ Ow (Zai .i64) 1 aK bs D.2.1 aS /\ Inn [] au f27 /\ Inn [] au aS /\ Dj f27 aS) (fun _ dO => ?_) (fun α aK hM => ?_)
 ·refine Zl ?_
  obtain ⟨cr, dv⟩ := Zt.1 dw
  refine ZI (fun n α aL => ∃ (open0 : List (Int × Int × Int)), ∃ (goals1 : List (Int)), ∃ (most2 : Int), ∃ (O : Int), ∃ (bt : Value), ∃ (ax : Fp), ∃ (bu : Value), ∃ (f48 : Fp), ZO (fun zz_ => Zcg af Z out zz_.1 zz_.2.1 zz_.2.2.1 zz_.2.2.2) n (open0, goals1, most2, O) = some D /\ Has α [(0, pt_ az 0), (2, i_ a6), (4, i_ hops), (5, i_ settles), (7, pt_ bF 0), (13, bt), (14, bu), (15, .int .u64 most2), (25, bi), (26, i_ (out.length : Int)), (27, i_ O)] /\ FrS [] au aL /\ Ow ZA 3 aL bt open0 ax /\ Ow (Zai .i64) 1 aL bu goals1 f48 /\ Inn [] au ax /\ Inn [] au f48 /\ Dj ax f48) cr ⟨[], [], 0, 0, (.slice none 0 0), [], (.slice none 0 0), [], dv, ha_, (fr_ Y.wf), (Ow.nil (by decide)), (Ow.nil (by decide)), in_, in_, dn_⟩ ?_
  rintro cr α aL ⟨open0, goals1, most2, O, bt, ax, bu, f48, dt, b5, ag, aq, ar, aV, aE, aO⟩ fd cf
  obtain ⟨cu, z55, rfl, aD, bk⟩ := Zx dt
  obtain ⟨β, rfl⟩ := Zk b5
  clear b5
  replace aD : Zcg af Z out open0 goals1 most2 O = some z55 := aD
  unfold Zcg at aD
  obtain ⟨bD, cv, bL, rfl⟩ := aq.form
  obtain ⟨bE, cw, bM, rfl⟩ := ar.form
  refine sn_ (sq_ fun dQ => ?_)
  refine wc_ (O < (out.length : Int)) (fun aB => ?_) fun aB => ?_
  ·have eF := Ze aB aD
   refine Zg (dQ _ _ (sq_ fun cg => Zl (sq_ fun dR => g_' ?_)))
   obtain ⟨bR, cE⟩ := Zb eF
   have cM := (cI.fr ag dn_)
   refine cM.ix_ 92 bR aB (le_ 98 0 (.agg #[i_ ((gt out O).1), .int .u64 ((gt out O).2.1), i_ ((gt out O).2.2)]) cM bR aB ?_)
   refine rk_ ag.wf [i_ 0, .int .u64 0, i_ 0] fun fu e_ ah an eG => ?_
   obtain ⟨fa, d9, ai, bo⟩ := ra_ 98 0 ah.wf eG [i_ ((gt out O).1), .int .u64 ((gt out O).2.1), i_ ((gt out O).2.2)] [i_ ((gt out O).1), .int .u64 ((gt out O).2.1), i_ ((gt out O).2.2)]
   refine ek_ d9 (Za (dR _ _ (sq_ fun dS => sq_ fun dT => g_' (qs_ 1 (lr_ 3 0 (i_ ((gt out O).1)) bo (qs_ 1 ?_))))))
   have cX := (an.djn (a2.ltF.le ag.n))
   have cN := (((a2.frS ag dn_).ext ah).frS ai cX)
   refine lr_ 3 0 (i_ af) cN (qs_ 1 (Za (dT _ _ ?_)))
   refine wc_ (((gt out O).1) = af) (fun bh => ?_) fun bh => ?_
   ·have eH := Ze bh cE
    refine ZH (Zj (ZT ?_))
    refine cg _ _ (g_' ?_)
    obtain ⟨dm, eI⟩ := Zb eH
    refine w_' ((O + 1)) (Zo (by have := dm; omega)) (qs_ 1 (Za ?_))
    have eW := ((aq.ext ah).fr ai (an.djn aq.lt))
    have eX := ((ar.ext ah).fr ai (an.djn ar.lt))
    obtain rfl := oi_ eI
    exact cf cu _ _ lt_ ⟨open0, goals1, most2, (O + 1), (.slice bD cv bL), ax, (.slice bE cw bM), f48, bk, ha_, (fs_ Y.wf ((fs_ Y.wf (fr_ Y.wf) ag in_).extR ah) ai (an.fresh ag.n)), eW, eX, (aV.fresh (Nat.le_refl _)), (aE.fresh (Nat.le_refl _)), aO⟩
   have eJ := Zi bh cE
   refine Zg (dS _ _ (sq_ fun dU => g_' (qs_ 2 (lr_ 3 0 (i_ ((gt out O).1)) bo ?_))))
   refine Zbo (enc := (Zai .i64)) (sz := 1) ai.wf [(gt out O).1] 1 (by decide) (fun _ _ => rfl) (fun _ _ => rfl) rfl (by kernel_rfl) fun f4 fH fb al fJ b6 => ?_
   obtain ⟨ff, fR, fv, rfl⟩ := b6.form
   have eL := (((ar.ext ah).fr ai (an.djn ar.lt)).ext al)
   obtain ⟨c9, d_⟩ := Zb eJ
   obtain ⟨fW, e0, c3, d4, av, bj, bV⟩ := Ow.append (P := Tryz.prog) 8 al.wf eL b6.sq (fun _ _ => rfl) (at_ := #[26, 26]) rfl rfl (by kernel_rfl) (by kernel_rfl) (by decide) (by have := c9; first | omega | (simp only [List.length_cons, List.length_nil] at this ⊢; omega) | (simp at this ⊢; omega))
   obtain ⟨bx, cj, bG, rfl⟩ := bj.form
   refine ZaL (.slice bx cj bG) (by kernel_rfl) (d4) ?_
   refine qs_ 1 (Za (dU _ _ (sq_ fun dB => g_' (qs_ 2 ?_))))
   have bv := ((cN.ext al).frS av (aE.djn a2.ltF))
   refine lr_ 61 1 (.int .u64 Z) bv (qs_ 1 ?_)
   have cS := (an.djn ar.lt)
   have bw := ((bo.ext al).frS av (Dj.symm cS))
   refine lr_ 61 1 (.int .u64 ((gt out O).2.1)) bw ?_
   obtain ⟨c_, ea⟩ := Zb d_
   refine s_w ((Z + ((gt out O).2.1))) (k := .u64) (x := (Z + ((gt out O).2.1))) (by kernel_rfl) (ZdA c_) ?_
   refine l_' (.int .u64 (max most2 (Z + ((gt out O).2.1)))) (Zfr Tryz.prog [.int .u64 most2, .int .u64 (Z + ((gt out O).2.1))]) (Ze8 _ _) (qs_ 1 (Za (dB _ _ (g_' (qs_ 2 (lr_ 3 0 (i_ af) bv (qs_ 1 (lr_ 3 0 (i_ ((gt out O).1)) bw (qs_ 1 (lr_ 61 1 (.int .u64 Z) bv (qs_ 1 (lr_ 61 1 (.int .u64 ((gt out O).2.1)) bw ?_))))))))))))
   obtain ⟨da, eb⟩ := Zb ea
   refine s_w ((Z + ((gt out O).2.1))) (k := .u64) (x := (Z + ((gt out O).2.1))) (by kernel_rfl) (ZdA (by have := da; omega)) ?_
   refine qs_ 1 ?_
   refine Zbo (enc := ZA) (sz := 3) av.wf [(af, (gt out O).1, (Z + ((gt out O).2.1)))] 1 (by decide) (fun _ _ => rfl) (fun _ _ => rfl) rfl (by kernel_rfl) fun fX fC e1 aw fK b7 => ?_
   obtain ⟨fg, fS, fw, rfl⟩ := b7.form
   have eM := (((((aq.ext ah).fr ai (an.djn aq.lt)).ext al).fr av (Dj.symm aO)).ext aw)
   obtain ⟨db, ec⟩ := Zb eb
   obtain ⟨fY, e2, c4, d5, bO, b8, bW⟩ := Ow.append (P := Tryz.prog) 24 aw.wf eM b7.sq (fun _ _ => rfl) (at_ := #[37, 37]) rfl rfl (by kernel_rfl) (by kernel_rfl) (by decide) (by have := db; first | omega | (simp only [List.length_cons, List.length_nil] at this ⊢; omega) | (simp at this ⊢; omega))
   obtain ⟨bz, ck, bH, rfl⟩ := b8.form
   refine ZaL (.slice bz ck bH) (by kernel_rfl) (d5) ?_
   refine qs_ 1 (Za (cg _ _ (g_' ?_)))
   obtain ⟨dc, ed⟩ := Zb ec
   refine w_' ((O + 1)) (Zo (by have := dc; omega)) (qs_ 1 (Za ?_))
   have dW := (t_ (t_ ah.n ai.n) al.n)
   have bN := (bV.dj (Dj.symm aO) (aq.lt.le dW))
   have eN := ((bj.ext aw).fr bO (Dj.symm bN))
   have dX := (t_ (t_ (t_ (t_ (t_ ag.n ah.n) ai.n) al.n) av.n) aw.n)
   have dY := (t_ (t_ (t_ ag.n ah.n) ai.n) al.n)
   have cT := (bW.dj (Dj.symm bN) (bj.lt.le aw.n))
   obtain rfl := oi_ ed
   exact cf cu _ _ lt_ ⟨(open0 ++ [(af, (gt out O).1, (Z + ((gt out O).2.1)))]), (goals1 ++ [(gt out O).1]), (max most2 (Z + ((gt out O).2.1))), (O + 1), (.slice bz ck bH), c4, (.slice bx cj bG), c3, bk, ha_, (fs_ Y.wf ((fs_ Y.wf ((fs_ Y.wf ((fs_ Y.wf (fr_ Y.wf) ag in_).extR ah) ai (an.fresh ag.n)).extR al) av (aE.fresh (Nat.le_refl _))).extR aw) bO (aV.fresh (Nat.le_refl _))), b8, eN, (Inn.trans (aV.fresh (Nat.le_refl _)) dX bW), (Inn.trans (aE.fresh (Nat.le_refl _)) dY bV), cT⟩
  have ee := Zi aB aD
  refine ZH (Zj (Zj (ZT ?_)))
  obtain rfl := oi_ ee
  obtain rfl := Zv bk
  exact dO _ _ ⟨(.slice bD cv bL), ax, (.slice bE cw bM), f48, ha_, (fs_ Y.wf (fr_ Y.wf) ag in_), aq, ar, (aV.fresh (Nat.le_refl _)), (aE.fresh (Nat.le_refl _)), aO⟩
 obtain ⟨br, f27, bs, aS, bZ, ak, ci, bm, fP, fQ, fB⟩ := hM
 obtain ⟨β, rfl⟩ := Zk bZ
 clear bZ
 obtain ⟨cO, dZ, cQ, rfl⟩ := ci.form
 obtain ⟨fh, fT, fx, rfl⟩ := bm.form
 refine dC _ _ (sq_ fun dD => sq_ fun dE => g_' (qs_ 1 (bm.sq.ln_ 26 (qs_ 1 (Za (dE _ _ ?_))))))
 refine wc_ ((D.2.1.length : Int) = 0) (fun bc => ?_) fun bc => ?_
 ·have ef := Ze bc cz
  refine sn_ ?_
  refine Zh (Zf ?_)
  refine br_ [.slice none 0 0] ?_
  obtain rfl := oi_ ef
  exact ⟨(.slice none 0 0), [], rfl, (fs_ aj ((f0_ aj).extR Y) ak in_), (Ow.nil (by decide)), in_⟩
 have eh := Zi bc cz
 refine Zg (dD _ _ (sq_ fun dG => g_' (qs_ 2 ?_)))
 have eO := (a2.frS ak dn_)
 refine lr_ 3 0 (i_ af) eO (qs_ 5 ?_)
 have cG := ((bT.ext Y).fr ak dn_)
 have cH := ((bS.ext Y).frS ak dn_)
 obtain ⟨a7, dy, cy⟩ := bs_ eh
 refine ck_ (Zh5 ak.wf cG cH bm.sq dy) ?_
 rintro _ aJ ⟨fZ, fD, f5, fE, rfl, U, bl, dV, fN, fO, fA⟩
 obtain ⟨cP, d0, cR, rfl⟩ := bl.form
 refine qs_ 5 (Za (dG _ _ (sq_ fun dH => sq_ fun ce => g_' (qs_ 1 ?_))))
 rcases (dV).cases with ⟨bd, rfl⟩ | ⟨bd, eK, eY, rfl⟩
 ·have ej := Ze bd cy
  refine qs_ 1 (Za (ce _ _ ?_))
  refine wb_ false (fun h => by cases h) fun _ => ?_
  refine Zg (dH _ _ (sn_ (sq_ fun dI => sq_ fun dJ => g_' (qs_ 1 ?_))))
  have cJ := (ci.fr U dn_)
  refine cJ.sq.ln_ 37 (qs_ 1 (Za (dJ _ _ ?_)))
  obtain ⟨cx, dx, ek⟩ := bs_ ej
  refine ZC (fun α a_ => ∃ (bp : Value) (aR : Fp), Has α [(20, bp)] /\ FrS [] aJ a_ /\ Ow ZA 3 a_ bp cx aR /\ Inn [] aJ aR) (fun _ dK => ?_) (fun α a_ hM => ?_)
  ·refine Zl ?_
   obtain ⟨cm, du⟩ := Zt.1 dx
   refine ZI (fun n α ba => ∃ (am : List (Int × Int × Int)), ∃ (e : Int), ∃ (bq : Value), ∃ (ap : Fp), ZO (fun zz_ => Zcd aY aZ a1 D a7 zz_.1 zz_.2) n (am, e) = some cx /\ Has α [(0, pt_ az 0), (18, .slice cP d0 cR), (20, bq), (79, .slice cO dZ cQ), (80, i_ (D.1.length : Int)), (81, i_ e)] /\ FrS [] aJ ba /\ Ow ZA 3 ba bq am ap /\ Inn [] aJ ap) cm ⟨[], 0, (.slice none 0 0), [], du, ha_, (fr_ U.wf), (Ow.nil (by decide)), in_⟩ ?_
   rintro cm α ba ⟨am, e, bq, ap, dr, bY, V, ae, ao⟩ fc aF
   obtain ⟨aH, eZ, rfl, aC, ay⟩ := Zx dr
   obtain ⟨β, rfl⟩ := Zk bY
   clear bY
   replace aC : Zcd aY aZ a1 D a7 am e = some eZ := aC
   unfold Zcd at aC
   obtain ⟨aM, aX, aN, rfl⟩ := ae.form
   refine sn_ (sq_ fun dL => ?_)
   refine wc_ (e < (D.1.length : Int)) (fun aA => ?_) fun aA => ?_
   ·have el := Ze aA aC
    refine Zg (dL _ _ (sq_ fun aG => Zl (sq_ fun dM => g_' (qs_ 1 ?_))))
    obtain ⟨aT, em⟩ := Zb el
    have cK := (cJ.fr V dn_)
    refine cK.sq.ix_ 37 aT aA (le_ 78 0 (.agg #[i_ ((gt D.1 e).1), i_ ((gt D.1 e).2.1), .int .u64 ((gt D.1 e).2.2)]) cK.sq aT aA ?_)
    refine rk_ V.wf [i_ 0, i_ 0, .int .u64 0] fun fo e3 aa ad eo => ?_
    refine qs_ 1 ?_
    obtain ⟨e4, d6, ab, bn⟩ := ra_ 78 0 aa.wf eo [i_ ((gt D.1 e).1), i_ ((gt D.1 e).2.1), .int .u64 ((gt D.1 e).2.2)] [i_ ((gt D.1 e).1), i_ ((gt D.1 e).2.1), .int .u64 ((gt D.1 e).2.2)]
    refine ek_ d6 (Za (dM _ _ (sq_ fun dN => g_' (qs_ 2 (lr_ 3 0 (i_ ((gt D.1 e).1)) bn (qs_ 1 (lr_ 3 1 (i_ ((gt D.1 e).2.1)) bn ?_)))))))
    have cn := (t_ (t_ (t_ Y.n ak.n) U.n) V.n)
    have cU := (ad.djn (bT.lt.le cn))
    have eP := ((((cG.fr U dn_).fr V dn_).ext aa).fr ab cU)
    have cV := (ad.djn (bS.ltF.le cn))
    have eQ := ((((cH.frS U dn_).frS V dn_).ext aa).frS ab cV)
    obtain ⟨a8, dz, cA⟩ := bs_ em
    refine ck_ (ZdI ab.wf eP eQ dz) ?_
    rintro _ e5 ⟨rfl, ac⟩
    refine qs_ 5 (Za (dN _ _ (sq_ fun aW => ?_)))
    refine ZR [0, 1, 2, 3, 4, 5, 6, 7, 8, 9, 10, 11, 12, 13, 14, 15, 16, 17, 18, 19, 20, 21] (by kernel_rfl) ?_
    refine es_ 1 ?_
    have aI := (bn.frS ac dn_)
    refine mr_ 61 2 (.int .u64 ((gt D.1 e).2.2)) aI ?_
    refine db_ (((gt D.1 e).2.2) ≤ 140737488355328) (fun be => ?_) fun be => ?_
    ·have ep := Ze be cA
     refine es_ 3 ?_
     obtain ⟨bQ, cB⟩ := Zb ep
     have cW := (ad.djn (bl.lt.le V.n))
     have cL := ((((bl.fr V dn_).ext aa).fr ab cW).fr ac dn_)
     refine cL.sq.mx_ 135 aT bQ (me_ 61 0 (.int .u64 (gt a7.1 e)) cL.sq aT bQ (es_ 1 (mr_ 61 2 (.int .u64 ((gt D.1 e).2.2)) aI ?_)))
     refine db_ ((gt a7.1 e) > ((gt D.1 e).2.2)) (fun bf => ?_) fun bf => ?_
     ·have cC := Ze bf cB
      refine es_ 2 (e_' (.bool a8.2) (e_' (.bool a8.2) ?_))
      by_cases aU : a8.2 = true
      ·have cD := Ze aU cC
       rw [aU]
       refine es_ 2 (mr_ 61 2 (.int .u64 ((gt D.1 e).2.2)) aI (es_ 4 ?_))
       refine ZK ?_
       refine aW _ _ ?_
       refine Zdi (a8.1 ≤ ((gt D.1 e).2.2)) (by kernel_rfl) rfl (fun bg => ?_) (fun bg => ?_)
       ·have eq := Zi bg cD
        refine g_' (qs_ 1 (lr_ 78 0 (.agg #[i_ ((gt D.1 e).1), i_ ((gt D.1 e).2.1), .int .u64 ((gt D.1 e).2.2)]) aI ?_))
        refine Zbo (enc := ZA) (sz := 3) ac.wf [((gt D.1 e).1, (gt D.1 e).2.1, (gt D.1 e).2.2)] 1 (by decide) (fun _ _ => rfl) (fun _ _ => rfl) rfl (by kernel_rfl) fun f0 fF e6 aP fL b9 => ?_
        obtain ⟨fj, fU, fy, rfl⟩ := b9.form
        have eR := ((((ae.ext aa).fr ab (ad.djn ae.lt)).fr ac dn_).ext aP)
        obtain ⟨dd, es⟩ := Zb eq
        obtain ⟨f1, e7, c5, d7, cZ, b_, dp⟩ := Ow.append (P := Tryz.prog) 24 aP.wf eR b9.sq (fun _ _ => rfl) (at_ := #[37, 37]) rfl rfl (by kernel_rfl) (by kernel_rfl) (by decide) (by have := dd; first | omega | (simp only [List.length_cons, List.length_nil] at this ⊢; omega) | (simp at this ⊢; omega))
        obtain ⟨bA, co, bI, rfl⟩ := b_.form
        refine ZaL (.slice bA co bI) (by kernel_rfl) (d7) ?_
        refine qs_ 1 (Za (aG _ _ (g_' ?_)))
        obtain ⟨de, et⟩ := Zb es
        refine w_' ((e + 1)) (Zo (by have := de; omega)) (qs_ 1 (Za ?_))
        have d1 := (t_ (t_ (t_ (t_ V.n aa.n) ab.n) ac.n) aP.n)
        obtain rfl := oi_ et
        exact aF aH _ _ lt_ ⟨(am ++ [((gt D.1 e).1, (gt D.1 e).2.1, (gt D.1 e).2.2)]), (e + 1), (.slice bA co bI), c5, ay, ha_, (fs_ U.wf ((fs_ U.wf (fs_ U.wf ((fs_ U.wf (fr_ U.wf) V in_).extR aa) ab (ad.fresh V.n)) ac in_).extR aP) cZ (ao.fresh (Nat.le_refl _))), b_, (Inn.trans (ao.fresh (Nat.le_refl _)) d1 dp)⟩
       have eu := Ze bg cD
       refine Zg (aG _ _ (g_' ?_))
       obtain ⟨df, ev⟩ := Zb eu
       refine w_' ((e + 1)) (Zo (by have := df; omega)) (qs_ 1 (Za ?_))
       have eS := (((ae.ext aa).fr ab (ad.djn ae.lt)).fr ac dn_)
       obtain rfl := oi_ ev
       exact aF aH _ _ lt_ ⟨am, (e + 1), (.slice aM aX aN), ap, ay, ha_, (fs_ U.wf (fs_ U.wf ((fs_ U.wf (fr_ U.wf) V in_).extR aa) ab (ad.fresh V.n)) ac in_), eS, (ao.fresh (Nat.le_refl _))⟩
      have ew := Zi aU cC
      rw [nb aU]
      refine es_ 7 ?_
      refine ZK ?_
      refine aW _ _ ?_
      refine wb_ true (fun _ => ?_) fun h => by cases h
      refine g_' (qs_ 1 (lr_ 78 0 (.agg #[i_ ((gt D.1 e).1), i_ ((gt D.1 e).2.1), .int .u64 ((gt D.1 e).2.2)]) aI ?_))
      refine Zbo (enc := ZA) (sz := 3) ac.wf [((gt D.1 e).1, (gt D.1 e).2.1, (gt D.1 e).2.2)] 1 (by decide) (fun _ _ => rfl) (fun _ _ => rfl) rfl (by kernel_rfl) fun f2 fG e8 aQ fM ca => ?_
      obtain ⟨fm, fV, fz, rfl⟩ := ca.form
      have eT := ((((ae.ext aa).fr ab (ad.djn ae.lt)).fr ac dn_).ext aQ)
      obtain ⟨dg, ex⟩ := Zb ew
      obtain ⟨f3, e9, c6, d8, c0, cc, dq⟩ := Ow.append (P := Tryz.prog) 24 aQ.wf eT ca.sq (fun _ _ => rfl) (at_ := #[37, 37]) rfl rfl (by kernel_rfl) (by kernel_rfl) (by decide) (by have := dg; first | omega | (simp only [List.length_cons, List.length_nil] at this ⊢; omega) | (simp at this ⊢; omega))
      obtain ⟨bB, cp, bJ, rfl⟩ := cc.form
      refine ZaL (.slice bB cp bJ) (by kernel_rfl) (d8) ?_
      refine qs_ 1 (Za (aG _ _ (g_' ?_)))
      obtain ⟨dh, ey⟩ := Zb ex
      refine w_' ((e + 1)) (Zo (by have := dh; omega)) (qs_ 1 (Za ?_))
      have d2 := (t_ (t_ (t_ (t_ V.n aa.n) ab.n) ac.n) aQ.n)
      obtain rfl := oi_ ey
      exact aF aH _ _ lt_ ⟨(am ++ [((gt D.1 e).1, (gt D.1 e).2.1, (gt D.1 e).2.2)]), (e + 1), (.slice bB cp bJ), c6, ay, ha_, (fs_ U.wf ((fs_ U.wf (fs_ U.wf ((fs_ U.wf (fr_ U.wf) V in_).extR aa) ab (ad.fresh V.n)) ac in_).extR aQ) c0 (ao.fresh (Nat.le_refl _))), cc, (Inn.trans (ao.fresh (Nat.le_refl _)) d2 dq)⟩
     have ez := Zi bf cB
     refine es_ 11 ?_
     refine ZK ?_
     refine aW _ _ ?_
     refine wb_ false (fun h => by cases h) fun _ => ?_
     refine Zg (aG _ _ (g_' ?_))
     obtain ⟨di, eA⟩ := Zb ez
     refine w_' ((e + 1)) (Zo (by have := di; omega)) (qs_ 1 (Za ?_))
     have eU := (((ae.ext aa).fr ab (ad.djn ae.lt)).fr ac dn_)
     obtain rfl := oi_ eA
     exact aF aH _ _ lt_ ⟨am, (e + 1), (.slice aM aX aN), ap, ay, ha_, (fs_ U.wf (fs_ U.wf ((fs_ U.wf (fr_ U.wf) V in_).extR aa) ab (ad.fresh V.n)) ac in_), eU, (ao.fresh (Nat.le_refl _))⟩
    have eB := Zi be cA
    refine es_ 19 ?_
    refine ZK ?_
    refine aW _ _ ?_
    refine wb_ false (fun h => by cases h) fun _ => ?_
    refine Zg (aG _ _ (g_' ?_))
    obtain ⟨dk, eC⟩ := Zb eB
    refine w_' ((e + 1)) (Zo (by have := dk; omega)) (qs_ 1 (Za ?_))
    have eV := (((ae.ext aa).fr ab (ad.djn ae.lt)).fr ac dn_)
    obtain rfl := oi_ eC
    exact aF aH _ _ lt_ ⟨am, (e + 1), (.slice aM aX aN), ap, ay, ha_, (fs_ U.wf (fs_ U.wf ((fs_ U.wf (fr_ U.wf) V in_).extR aa) ab (ad.fresh V.n)) ac in_), eV, (ao.fresh (Nat.le_refl _))⟩
   have eD := Zi aA aC
   refine ZH (Zj (Zj (ZT ?_)))
   obtain rfl := oi_ eD
   obtain rfl := Zv ay
   exact dK _ _ ⟨(.slice aM aX aN), ap, ha_, (fs_ U.wf (fr_ U.wf) V in_), ae, (ao.fresh (Nat.le_refl _))⟩
  obtain ⟨bp, aR, bX, cY, ch, dA⟩ := hM
  obtain ⟨β, rfl⟩ := Zk bX
  clear bX
  obtain ⟨bC, cq, bK, rfl⟩ := ch.form
  refine dI _ _ (sn_ ?_)
  refine Zh ?_
  refine br_ [.slice bC cq bK] ?_
  have d3 := (t_ (t_ Y.n ak.n) U.n)
  obtain rfl := oi_ ek
  exact ⟨(.slice bC cq bK), aR, rfl, (fs_ aj (fs_ aj (fs_ aj ((f0_ aj).extR Y) ak in_) U in_) cY in_), ch, (dA.fresh d3)⟩
 have eE := Zi bd cy
 refine l_' (.bool true) (Zbl Tryz.prog .neq 39 (.tmp 77) (.const .nilIface) (.iface eK eY) .nilIface) (ZcT (by kernel_rfl)) (Za (ce _ _ ?_))
 refine wb_ true (fun _ => ?_) fun h => by cases h
 refine sn_ ?_
 refine Zh (Zf ?_)
 refine br_ [.slice none 0 0] ?_
 obtain rfl := oi_ eE
 exact ⟨(.slice none 0 0), [], rfl, (fs_ aj (fs_ aj ((f0_ aj).extR Y) ak in_) U in_), (Ow.nil (by decide)), in_⟩
theorem Zek {H : AH} {aA : Nat} {aS : Value} {bz : Fp} {au : List (Bool × List (Int × Int × Int) × List (Int × Int × Int))} {av : Int} {aw : Int} {ah : Int} {am : Int} {an : Int} {ak : Int} {ai : Int} {aj : Int} {r : List (Int × Int × Int) × Er}
    (aa : WF H) (aR : Nd Zc 3 H aS au bz []) (aQ : Row H aA [aS, i_ av, i_ aw]) (aX : ZbW au av aw ah am an ak ai aj = some r) :
    ACalls Tryz.prog 16 #[pt_ aA 0, i_ ah, .agg #[i_ am, i_ an, i_ ak, i_ ai, i_ aj]] H fun v H' => ∃ (bc : Value) (aB : Fp) (bk : Value) (aC : Fp), v = .tuple #[bc, bk] /\ FrS [] H H' /\ Ow ZA 3 H' bc r.1 aB /\ Ev 48 82 H' bk r.2 aC /\ Inn [] H aB /\ Inn [] H aC /\ Dj aB aC := by
 refine ab_ Tryz.func16 ?_
 unfold ZbW at aX
 refine sq_ fun bR => g_' ?_
 refine rl_ aa [i_ am, i_ an, i_ ak, i_ ai, i_ aj] fun cL cD V cQ cm => ?_
 refine qs_ 2 (Za (bR _ _ (sq_ fun bS => sq_ fun bT => g_' (qs_ 2 ?_))))
 have be := (aR.ext V)
 have bf := (aQ.ext V)
 obtain ⟨c0, bH, bb⟩ := bs_ aX
 refine ck_ (Zid V.wf be bf bH) ?_
 rintro cZ _ ⟨_, f27, rfl, rfl, a1, bL⟩
 refine qs_ 1 (Za (bT _ _ (sq_ fun aY => g_' (qs_ 1 ?_))))
 rcases (a1).cases with ⟨aD, rfl⟩ | ⟨aD, aJ, aK, rfl⟩
 ·have co := Ze aD bb
  refine qs_ 1 (Za (aY _ _ ?_))
  refine wb_ false (fun h => by cases h) fun _ => ?_
  refine Zg (bS _ _ (sq_ fun bU => g_' (lr_ 28 0 (.agg #[i_ am, i_ an, i_ ak, i_ ai, i_ aj]) cm ?_)))
  obtain ⟨ax, bI, cp⟩ := bs_ co
  refine ck_ (Zhn V.wf bI) ?_
  rintro _ cG ⟨rfl, ab⟩
  refine qs_ 5 (Za (bU _ _ (sq_ fun bV => g_' (qs_ 2 ?_))))
  have bg := (be.fr ab dn_)
  have bh := (bf.frS ab dn_)
  obtain ⟨bl, bJ, cq⟩ := bs_ cp
  refine ck_ (Zcw ab.wf bg bh bJ) ?_
  rintro cX cH ⟨_, cO, rfl, ac, aF, cS⟩
  obtain ⟨bn, b9, bq, rfl⟩ := aF.form
  refine qs_ 1 (Za (bV _ _ (sn_ (sq_ fun bW => sq_ fun bX => g_' (qs_ 2 ?_)))))
  have bi := (bg.fr ac dn_)
  have bj := (bh.frS ac dn_)
  obtain ⟨D, bK, cr⟩ := bs_ cq
  refine ck_ (Zem ac.wf bi bj bK) ?_
  rintro cY al ⟨_, cP, rfl, O, aG, cT⟩
  obtain ⟨bo, b_, br, rfl⟩ := aG.form
  refine aG.sq.ln_ 92 (qs_ 1 (Za (bX _ _ ?_)))
  obtain ⟨ba, bF, cu⟩ := bs_ cr
  refine ZC (fun α ay => ∃ (aH : Value) (ap : Fp), Has α [(12, aH)] /\ FrS [] al ay /\ Ow ZA 3 ay aH ba ap /\ Inn [] al ap) (fun _ bY => ?_) (fun α ay hM => ?_)
  ·refine Zl ?_
   obtain ⟨a_, bE⟩ := Zt.1 bF
   refine ZI (fun n α az => ∃ (ag : List (Int × Int × Int)), ∃ (e : Int), ∃ (aI : Value), ∃ (aq : Fp), ZO (fun zz_ => Zcr au av aw ah ax bl D zz_.1 zz_.2) n (ag, e) = some ba /\ Has α [(0, pt_ aA 0), (1, i_ ah), (9, i_ ax.1), (10, i_ ax.2), (11, .slice bn b9 bq), (12, aI), (31, .slice bo b_ br), (32, i_ (D.length : Int)), (33, i_ e)] /\ FrS [] al az /\ Ow ZA 3 az aI ag aq /\ Inn [] al aq) a_ ⟨[], 0, (.slice none 0 0), [], bE, ha_, (fr_ O.wf), (Ow.nil (by decide)), in_⟩ ?_
   rintro a_ α az ⟨ag, e, aI, aq, bD, aU, U, ar, aE⟩ cI bN
   obtain ⟨bZ, cA, rfl, af, aW⟩ := Zx bD
   obtain ⟨β, rfl⟩ := Zk aU
   clear aU
   replace af : Zcr au av aw ah ax bl D ag e = some cA := af
   unfold Zcr at af
   obtain ⟨bm, b5, bp, rfl⟩ := ar.form
   refine sn_ (sq_ fun bO => ?_)
   refine wc_ (e < (D.length : Int)) (fun ad => ?_) fun ad => ?_
   ·have cd := Ze ad af
    refine Zg (bO _ _ (sq_ fun bP => Zl (sq_ fun bQ => g_' ?_)))
    obtain ⟨aP, ce⟩ := Zb cd
    have bd := (aG.fr U dn_)
    refine bd.sq.ix_ 92 aP ad (le_ 98 0 (.agg #[i_ ((gt D e).1), .int .u64 ((gt D e).2.1), i_ ((gt D e).2.2)]) bd.sq aP ad ?_)
    refine rk_ U.wf [i_ 0, .int .u64 0, i_ 0] fun cK cB Y ae cf => ?_
    obtain ⟨cC, ca, Z, cg⟩ := ra_ 98 0 Y.wf cf [i_ ((gt D e).1), .int .u64 ((gt D e).2.1), i_ ((gt D e).2.2)] [i_ ((gt D e).1), .int .u64 ((gt D e).2.1), i_ ((gt D e).2.2)]
    refine ek_ ca (Za (bQ _ _ (g_' (qs_ 2 (lr_ 98 0 (.agg #[i_ ((gt D e).1), .int .u64 ((gt D e).2.1), i_ ((gt D e).2.2)]) cg (qs_ 4 ?_))))))
    have a6 := (t_ (t_ (t_ (t_ V.n ab.n) ac.n) O.n) U.n)
    have bs := (ae.djn (aR.lt.le a6))
    have cv := ((((bi.fr O dn_).fr U dn_).ext Y).fr Z bs)
    have bt := (ae.djn (aQ.ltF.le a6))
    have cw := ((((bj.frS O dn_).frS U dn_).ext Y).frS Z bt)
    have b6 := (t_ O.n U.n)
    have bu := (ae.djn (aF.lt.le b6))
    have cx := ((((aF.fr O dn_).fr U dn_).ext Y).fr Z bu)
    obtain ⟨cz, bG, ch⟩ := bs_ ce
    refine ck_ (ZiN Z.wf cv cw cx.sq bG) ?_
    rintro cV cE ⟨_, cN, rfl, ao, aZ, cR⟩
    obtain ⟨cJ, cU, cM, rfl⟩ := aZ.form
    have cy := (((ar.ext Y).fr Z (ae.djn ar.lt)).fr ao dn_)
    obtain ⟨bA, ci⟩ := Zb ch
    obtain ⟨cW, cF, bx, cc, bv, aV, bC⟩ := Ow.append (P := Tryz.prog) 24 ao.wf cy aZ.sq (fun _ _ => rfl) (at_ := #[37, 37]) rfl rfl (by kernel_rfl) (by kernel_rfl) (by decide) (by have := bA; first | omega | (simp only [List.length_cons, List.length_nil] at this ⊢; omega) | (simp at this ⊢; omega))
    obtain ⟨aL, a7, aN, rfl⟩ := aV.form
    refine ZaL (.slice aL a7 aN) (by kernel_rfl) (cc) ?_
    refine qs_ 1 (Za (bP _ _ (g_' ?_)))
    obtain ⟨bB, cj⟩ := Zb ci
    refine w_' ((e + 1)) (Zo (by have := bB; omega)) (qs_ 1 (Za ?_))
    have b7 := (t_ (t_ (t_ U.n Y.n) Z.n) ao.n)
    obtain rfl := oi_ cj
    exact bN bZ _ _ lt_ ⟨(ag ++ cz), (e + 1), (.slice aL a7 aN), bx, aW, ha_, (fs_ O.wf (fs_ O.wf (fs_ O.wf ((fs_ O.wf (fr_ O.wf) U in_).extR Y) Z (ae.fresh U.n)) ao in_) bv (aE.fresh (Nat.le_refl _))), aV, (Inn.trans (aE.fresh (Nat.le_refl _)) b7 bC)⟩
   have ck := Zi ad af
   refine ZH (Zj (Zj (ZT ?_)))
   obtain rfl := oi_ ck
   obtain rfl := Zv aW
   exact bY _ _ ⟨(.slice bm b5 bp), aq, ha_, (fs_ O.wf (fr_ O.wf) U in_), ar, (aE.fresh (Nat.le_refl _))⟩
  obtain ⟨aH, ap, aT, bw, a2, bM⟩ := hM
  obtain ⟨β, rfl⟩ := Zk aT
  clear aT
  obtain ⟨aM, a8, aO, rfl⟩ := a2.form
  refine bW _ _ (sn_ ?_)
  refine Zh ?_
  refine br_ [.slice aM a8 aO, .nilIface] ?_
  have b8 := (t_ (t_ (t_ V.n ab.n) ac.n) O.n)
  obtain rfl := oi_ cu
  exact ⟨(.slice aM a8 aO), ap, (.nilIface), [], rfl, (fs_ aa (fs_ aa (fs_ aa (fs_ aa ((f0_ aa).extR V) ab in_) ac in_) O in_) bw in_), a2, Ev.nil, (bM.fresh b8), in_, Dj.nil_r⟩
 have cn := Zi aD bb
 refine l_' (.bool true) (Zbl Tryz.prog .neq 39 (.tmp 18) (.const .nilIface) (.iface aJ aK) .nilIface) (ZcT (by kernel_rfl)) (Za (aY _ _ ?_))
 refine wb_ true (fun _ => ?_) fun h => by cases h
 refine sn_ ?_
 refine Zh (Zf ?_)
 refine br_ [.slice none 0 0, .iface aJ aK] ?_
 obtain rfl := oi_ cn
 exact ⟨(.slice none 0 0), [], (.iface aJ aK), f27, rfl, ((f0_ aa).extR V), (Ow.nil (by decide)), a1, in_, (bL.fresh V.n), dn_⟩
end Go.Vd

/-! (KSc4) -/

set_option maxRecDepth 100000
set_option maxHeartbeats 4000000
set_option linter.unusedVariables false
namespace Go.Vd
open Go.Proofs
attribute [local irreducible] Zp Zq aWp
theorem ZiM {H : AH} {ah : Nat} {aj : Value} {aD : Fp} {aq : List (Bool × List (Int × Int × Int) × List (Int × Int × Int))} {ar : Int} {au : Int} {aA : Int} {Z : Int} {aa : Int} {Y : Int} {U : Int} {V : Int} {r : Int × Er}
    (e : WF H) (aH : Nd Zc 3 H aj aq aD []) (aG : Row H ah [aj, i_ ar, i_ au]) (ak : Zdy aq ar au aA Z aa Y U V = some r) :
    ACalls Tryz.prog 17 #[pt_ ah 0, i_ aA, .agg #[i_ Z, i_ aa, i_ Y, i_ U, i_ V]] H fun v H' => ∃ (v3 : Value) (ai : Fp), v = .tuple #[i_ r.1, v3] /\ FrS [] H H' /\ Ev 48 82 H' v3 r.2 ai /\ Inn [] H ai := by
 refine ab_ Tryz.func17 ?_
 unfold Zdy at ak
 refine sq_ fun aP => g_' ?_
 refine rl_ e [i_ Z, i_ aa, i_ Y, i_ U, i_ V] fun ba a6 D bg aQ => ?_
 refine qs_ 2 (Za (aP _ _ (sq_ fun aM => g_' (qs_ 2 (lr_ 28 0 (.agg #[i_ Z, i_ aa, i_ Y, i_ U, i_ V]) aQ ?_)))))
 have aw := (aH.ext D)
 have ax := (aG.ext D)
 obtain ⟨af, aI, av⟩ := bs_ ak
 refine ck_ (Zek D.wf aw ax aI) ?_
 rintro _ aZ ⟨bn, f20, bq, f22, rfl, O, am, an, bh, aL, be⟩
 obtain ⟨a7, bk, bb, rfl⟩ := am.form
 refine qs_ 5 (Za (aM _ _ (sq_ fun aN => sq_ fun al => g_' (qs_ 1 ?_))))
 rcases (an).cases with ⟨ac, rfl⟩ | ⟨ac, ad, ae, rfl⟩
 ·have aR := Ze ac av
  refine qs_ 1 (Za (al _ _ ?_))
  refine wb_ false (fun h => by cases h) fun _ => ?_
  refine Zg (aN _ _ (sq_ fun aO => g_' (qs_ 1 (am.sq.ln_ 37 (qs_ 2 ?_)))))
  have ay := (aw.fr O dn_)
  have az := (ax.frS O dn_)
  obtain ⟨ag, aJ, aS⟩ := bs_ aR
  refine ck_ (Zem O.wf ay az aJ) ?_
  rintro bo a1 ⟨_, f48, rfl, ab, ao, bi⟩
  obtain ⟨a8, bl, bc, rfl⟩ := ao.form
  refine ao.sq.ln_ 92 ?_
  obtain ⟨aE, aT⟩ := Zb aS
  refine w_' (((af.1.length : Int) - (ag.length : Int))) (Zo aE) (qs_ 2 ?_)
  have aX := (ay.fr ab dn_)
  have aY := (az.frS ab dn_)
  obtain ⟨aB, aK, aU⟩ := bs_ aT
  refine ck_ (Zcw ab.wf aX aY aK) ?_
  rintro bp a2 ⟨_, bf, rfl, aC, ap, bj⟩
  obtain ⟨a_, bm, bd, rfl⟩ := ap.form
  refine ap.sq.ln_ 92 ?_
  obtain ⟨aF, aV⟩ := Zb aU
  refine w_' ((((af.1.length : Int) - (ag.length : Int)) - (aB.length : Int))) (Zo aF) (qs_ 2 (Za (aO _ _ ?_)))
  refine Zh ?_
  refine br_ [i_ (((af.1.length : Int) - (ag.length : Int)) - (aB.length : Int)), .nilIface] ?_
  obtain rfl := oi_ aV
  exact ⟨(.nilIface), [], rfl, (fs_ e (fs_ e (fs_ e ((f0_ e).extR D) O in_) ab in_) aC in_), Ev.nil, in_⟩
 have aW := Zi ac av
 refine l_' (.bool true) (Zbl Tryz.prog .neq 39 (.tmp 17) (.const .nilIface) (.iface ad ae) .nilIface) (ZcT (by kernel_rfl)) (Za (al _ _ ?_))
 refine wb_ true (fun _ => ?_) fun h => by cases h
 refine sn_ ?_
 refine Zh (Zf ?_)
 refine br_ [i_ 0, .iface ad ae] ?_
 obtain rfl := oi_ aW
 exact ⟨(.iface ad ae), f22, rfl, (fs_ e ((f0_ e).extR D) O in_), an, (aL.fresh D.n)⟩
theorem ZeU {H : AH} {ag : Value} {aN : Fp} {l : List (Int × Int × Int)} {r : List (Int × Int × Int)}
    (D : WF H) (ar : Sq ZA 3 H ag l aN) (aA : Zb1 l = some r) :
    ACalls Tryz.prog 12 #[ag] H fun v H' => ∃ (aG : Value) (ap : Fp), v = aG /\ FrS [] H H' /\ Ow ZA 3 H' aG r ap /\ Inn [] H ap := by
 refine ab_ Tryz.func12 ?_
 unfold Zb1 at aA
 refine sn_ (sn_ (sq_ fun a1 => sq_ fun a2 => g_' (qs_ 1 (ar.ln_ 37 (qs_ 1 (Za (a2 _ _ ?_)))))))
 obtain ⟨aF, aT, bb⟩ := bs_ aA
 refine ZC (fun α ae => ∃ (aj : Value) (ac : Fp), Has α [(3, aj)] /\ FrS [] H ae /\ Ow ZA 3 ae aj aF ac /\ Inn [] H ac) (fun _ aV => ?_) (fun α ae hM => ?_)
 ·refine Zl ?_
  obtain ⟨aC, aS⟩ := Zt.1 aT
  refine ZI (fun n α af => ∃ (Y : List (Int × Int × Int)), ∃ (e : Int), ∃ (ak : Value), ∃ (f29 : Fp), ZO (fun zz_ => ZbX l zz_.1 zz_.2) n (Y, e) = some aF /\ Has α [(3, ak), (6, ag), (7, i_ (l.length : Int)), (8, i_ e)] /\ FrS [] H af /\ Ow ZA 3 af ak Y f29 /\ Inn [] H f29) aC ⟨[], 0, (.slice none 0 0), [], aS, ha_, (f0_ D), (Ow.nil (by decide)), in_⟩ ?_
  rintro aC α af ⟨Y, e, ak, f29, aR, aw, O, ad, ah⟩ bo aW
  obtain ⟨a6, bj, rfl, V, az⟩ := Zx aR
  obtain ⟨β, rfl⟩ := Zk aw
  clear aw
  replace V : ZbX l Y e = some bj := V
  unfold ZbX at V
  obtain ⟨aI, a7, aJ, rfl⟩ := ad.form
  refine sn_ (sq_ fun aX => ?_)
  refine wc_ (e < (l.length : Int)) (fun U => ?_) fun U => ?_
  ·have bc := Ze U V
   refine Zg (aX _ _ (sq_ fun aY => Zl (sq_ fun aZ => g_' ?_)))
   obtain ⟨aq, bd⟩ := Zb bc
   have aH := (ar.fr O dn_)
   refine aH.ix_ 37 aq U (le_ 78 0 (.agg #[i_ ((gt l e).1), i_ ((gt l e).2.1), .int .u64 ((gt l e).2.2)]) aH aq U ?_)
   refine rk_ O.wf [i_ 0, i_ 0, .int .u64 0] fun bp bk Z au be => ?_
   obtain ⟨bl, a_, aa, ai⟩ := ra_ 78 0 Z.wf be [i_ ((gt l e).1), i_ ((gt l e).2.1), .int .u64 ((gt l e).2.2)] [i_ ((gt l e).1), i_ ((gt l e).2.1), .int .u64 ((gt l e).2.2)]
   refine ek_ a_ (Za (aZ _ _ (g_' (qs_ 2 (lr_ 3 0 (i_ ((gt l e).1)) ai (qs_ 1 (lr_ 3 1 (i_ ((gt l e).2.1)) ai (qs_ 1 (lr_ 61 2 (.int .u64 ((gt l e).2.2)) ai (qs_ 1 ?_))))))))))
   refine Zbo (enc := ZA) (sz := 3) aa.wf [((gt l e).1, (gt l e).2.1, (gt l e).2.2)] 1 (by decide) (fun _ _ => rfl) (fun _ _ => rfl) rfl (by kernel_rfl) fun bu br bm ab bs ax => ?_
   obtain ⟨a66, bt, bq, rfl⟩ := ax.form
   have bi := (((ad.ext Z).fr aa (au.djn ad.lt)).ext ab)
   obtain ⟨aO, bf⟩ := Zb bd
   obtain ⟨bv, bn, aM, ba, aL, ay, aQ⟩ := Ow.append (P := Tryz.prog) 24 ab.wf bi ax.sq (fun _ _ => rfl) (at_ := #[49, 49]) rfl rfl (by kernel_rfl) (by kernel_rfl) (by decide) (by have := aO; first | omega | (simp only [List.length_cons, List.length_nil] at this ⊢; omega) | (simp at this ⊢; omega))
   obtain ⟨al, aD, an, rfl⟩ := ay.form
   refine ZaL (.slice al aD an) (by kernel_rfl) (ba) ?_
   refine qs_ 1 (Za (aY _ _ (g_' ?_)))
   obtain ⟨aP, bg⟩ := Zb bf
   refine w_' ((e + 1)) (Zo (by have := aP; omega)) (qs_ 1 (Za ?_))
   have a8 := (t_ (t_ (t_ O.n Z.n) aa.n) ab.n)
   obtain rfl := oi_ bg
   exact aW a6 _ _ lt_ ⟨(Y ++ [((gt l e).1, (gt l e).2.1, (gt l e).2.2)]), (e + 1), (.slice al aD an), aM, az, ha_, (fs_ D ((fs_ D ((fs_ D (f0_ D) O in_).extR Z) aa (au.fresh O.n)).extR ab) aL (ah.fresh (Nat.le_refl _))), ay, (Inn.trans (ah.fresh (Nat.le_refl _)) a8 aQ)⟩
  have bh := Zi U V
  refine ZH (Zj (Zj (ZT ?_)))
  obtain rfl := oi_ bh
  obtain rfl := Zv az
  exact aV _ _ ⟨(.slice aI a7 aJ), f29, ha_, (fs_ D (f0_ D) O in_), ad, (ah.fresh (Nat.le_refl _))⟩
 obtain ⟨aj, ac, av, aK, aB, aU⟩ := hM
 obtain ⟨β, rfl⟩ := Zk av
 clear av
 obtain ⟨am, aE, ao, rfl⟩ := aB.form
 refine a1 _ _ (sn_ ?_)
 refine Zh ?_
 refine br_ [.slice am aE ao] ?_
 obtain rfl := oi_ bb
 exact ⟨(.slice am aE ao), ac, rfl, (fs_ D (f0_ D) aK in_), aB, (aU.fresh (Nat.le_refl _))⟩
theorem Zet {H : AH} {ab : Value} {aq : Fp} {ac : Value} {ar : Fp} {a : List (Int × Int × Int)} {b : List (Int × Int × Int)} {r : Bool}
    (aT : WF H) (V : Sq ZA 3 H ab a aq) (aa : Sq ZA 3 H ac b ar) (ae : Zba a b = some r) :
    ACalls Tryz.prog 11 #[ab, ac] H fun v H' => v = .bool r /\ H = H' := by
 refine ab_ Tryz.func11 ?_
 unfold Zba at ae
 refine sn_ (sq_ fun k2 => sq_ fun k3 => g_' (qs_ 1 (V.ln_ 49 (qs_ 1 (aa.ln_ 49 (qs_ 1 (Za (k3 _ _ ?_))))))))
 refine Zdi ((a.length : Int) = (b.length : Int)) (by kernel_rfl) rfl (fun Y => ?_) (fun Y => ?_)
 ·have aN := Zi Y ae
  refine sn_ ?_
  refine Zh (Zf ?_)
  refine br_ [.bool false] ?_
  obtain rfl := oi_ aN
  exact ⟨rfl, rfl⟩
 have aQ := Ze Y ae
 refine Zg (k2 _ _ (sq_ fun aF => sq_ fun aG => g_' (qs_ 1 (V.ln_ 49 (qs_ 1 (Za (aG _ _ ?_)))))))
 obtain ⟨ap, ay, an⟩ := bs_ aQ
 refine ZC (fun α af => ∃ am, ap = Sum.inr am /\ Has α [] /\ H = af) (fun _ aA => ?_) (fun α af hM => ?_)
 ·refine Zl ?_
  obtain ⟨al, aw⟩ := Zt.1 ay
  refine ZI (fun n α ag => ∃ (e : Int), ZO (fun zz_ => Zbd a b zz_) n e = some ap /\ Has α [(0, ab), (1, ac), (12, i_ (a.length : Int)), (13, i_ e)] /\ H = ag) al ⟨0, aw, ha_, rfl⟩ ?_
  rintro al α ag ⟨e, av, aj, rfl⟩ aR aB
  obtain ⟨aH, z25, rfl, O, ad⟩ := Zx av
  obtain ⟨β, rfl⟩ := Zk aj
  clear aj
  replace O : Zbd a b e = some z25 := O
  unfold Zbd at O
  refine sn_ (sq_ fun aC => ?_)
  refine wc_ (e < (a.length : Int)) (fun D => ?_) fun D => ?_
  ·have aI := Ze D O
   refine Zg (aC _ _ (sq_ fun aD => Zl (sn_ (sq_ fun aE => ?_))))
   refine ZR [0, 1, 2, 3, 4, 5, 6, 7, 8] (by kernel_rfl) ?_
   refine es_ 2 ?_
   obtain ⟨U, aJ⟩ := Zb aI
   refine V.mx_ 49 U D (me_ 63 0 (.agg #[i_ ((gt a e).1), i_ ((gt a e).2.1), .int .u64 ((gt a e).2.2)]) V U D (es_ 2 ?_))
   obtain ⟨ah, ao⟩ := Zb aJ
   refine aa.mx_ 49 U ah (me_ 63 0 (.agg #[i_ ((gt b e).1), i_ ((gt b e).2.1), .int .u64 ((gt b e).2.2)]) aa U ah (m_' (.bool (!decide (((gt a e).1) = ((gt b e).1) /\ ((gt a e).2.1) = ((gt b e).2.1) /\ ((gt a e).2.2) = ((gt b e).2.2)))) (Zbl Tryz.prog .neq 63 (.tmp 19) (.tmp 23) (.agg #[i_ ((gt a e).1), i_ ((gt a e).2.1), .int .u64 ((gt a e).2.2)]) (.agg #[i_ ((gt b e).1), i_ ((gt b e).2.1), .int .u64 ((gt b e).2.2)])) (ZkB _ _ ((gt a e).1) ((gt a e).2.1) ((gt a e).2.2) ((gt b e).1) ((gt b e).2.1) ((gt b e).2.2)) ?_))
   refine ZK ?_
   refine aE _ _ ?_
   refine Zdi (((gt a e).1) = ((gt b e).1) /\ ((gt a e).2.1) = ((gt b e).2.1) /\ ((gt a e).2.2) = ((gt b e).2.2)) (by kernel_rfl) rfl (fun Z => ?_) (fun Z => ?_)
   ·have aK := Zi Z ao
    refine sn_ ?_
    refine Zh (ZD (Zf (Zf (ZD (Zf (Zf ?_))))))
    obtain ⟨aS, ak, az⟩ := map_some aK
    subst az
    obtain rfl := Zv ad
    have ax := elim_inl an
    rw [ax] at ak
    refine br_ [.bool false] ?_
    obtain rfl := oi_ ak
    exact ⟨rfl, rfl⟩
   have aL := Ze Z ao
   refine Zg (aD _ _ (g_' ?_))
   obtain ⟨au, aM⟩ := Zb aL
   refine w_' ((e + 1)) (Zo (by have := au; omega)) (qs_ 1 (Za ?_))
   obtain rfl := oi_ aM
   exact aB aH _ _ lt_ ⟨(e + 1), ad, ha_, rfl⟩
  have aO := Zi D O
  refine ZH (Zj (Zj (ZT ?_)))
  obtain rfl := oi_ aO
  obtain rfl := Zv ad
  exact aA _ _ ⟨_, rfl, trivial, rfl⟩
 obtain ⟨am, rfl, ai, rfl⟩ := hM
 have aP := elim_inr an
 obtain ⟨β, rfl⟩ := Zk ai
 clear ai
 refine aF _ _ (sn_ ?_)
 refine Zh ?_
 refine br_ [.bool true] ?_
 obtain rfl := oi_ aP
 exact ⟨rfl, rfl⟩
theorem Zf6 {H : AH} {r : Bool}
    (e : WF H) (ag : ZbR = some r) :
    ACalls Tryz.prog 4 #[] H fun v H' => v = .bool r /\ FrS [] H H' := by
 refine ab_ Tryz.func4 ?_
 unfold ZbR at ag
 refine sn_ (sq_ fun k2 => g_' ?_)
 obtain ⟨bL, au, aH⟩ := bs_ ag
 refine ck_ (Zgl e au) ?_
 rintro _ aY ⟨bE, bl, rfl, V, ah, bp⟩
 obtain ⟨a6, bx, bc, rfl⟩ := ah.form
 obtain ⟨aT, aq, al⟩ := bs_ aH
 rcases aT with bJ | bK
 ·exact (Zkh (ZjN al)).elim
 have aF := Zjd al
 refine ck_ (Zgd V.wf ah.sq aq) ?_
 rintro _ aV ⟨bC, f23, ba, rfl, U, ad, ai, bq, br, bg⟩
 obtain ⟨a7, bz, bd, rfl⟩ := ad.form
 refine qs_ 5 (Za (k2 _ _ (sq_ fun ax => g_' (qs_ 2 ?_))))
 obtain ⟨bM, ar, aG⟩ := bs_ aF
 refine ck_ (Zek U.wf ad ai ar) ?_
 rintro _ aW ⟨bD, bi, bH, bj, rfl, D, aj, az, bs, bt, bh⟩
 obtain ⟨a8, bA, be, rfl⟩ := aj.form
 refine qs_ 5 (Za (ax _ _ (sq_ fun ay => g_' (qs_ 2 ?_))))
 have aM := (ad.fr D dn_)
 have aN := (ai.frS D dn_)
 obtain ⟨aU, av, am⟩ := bs_ aG
 refine ck_ (ZiM D.wf aM aN av) ?_
 rintro _ aX ⟨bI, bk, rfl, O, aA, bu⟩
 refine qs_ 5 (Za (ay _ _ (sq_ fun Y => g_' (qs_ 4 ?_))))
 have aO := (az.fr O dn_)
 rcases (aO).cases with ⟨aa, rfl⟩ | ⟨aa, aK, aQ, rfl⟩
 ·have an := Ze aa am
  refine qs_ 4 ?_
  rcases (aA).cases with ⟨ab, rfl⟩ | ⟨ab, t77, aR, rfl⟩
  ·have ao := Ze ab an
   refine qs_ 4 ?_
   refine sb_ (aU.1 = (-1)) (fun ac => ?_) fun ac => ?_
   ·have aI := Ze ac ao
    refine qs_ 3 ?_
    have aP := (aj.fr O dn_)
    obtain ⟨bN, aw, aJ⟩ := bs_ aI
    refine ck_ (ZeU O.wf aP.sq aw) ?_
    rintro bF aZ ⟨_, bm, rfl, ae, ak, bv⟩
    obtain ⟨a_, bB, bf, rfl⟩ := ak.form
    refine qs_ 1 ?_
    refine Zbo (enc := ZA) (sz := 3) ae.wf [(0, 2, 5)] 1 (by decide) (fun _ _ => rfl) (fun _ _ => rfl) rfl (by kernel_rfl) fun bG bn a1 Z bo af => ?_
    obtain ⟨a2, bw, bb, rfl⟩ := af.form
    have aL := (ak.ext Z)
    obtain ⟨aS, ap, aB⟩ := bs_ aJ
    refine ck_ (Zet Z.wf aL.sq af.sq ap) ?_
    rintro _ _ ⟨rfl, rfl⟩
    refine qs_ 2 (Za (Y _ _ ?_))
    refine Zh ?_
    refine br_ [.bool aS] ?_
    obtain rfl := oi_ aB
    exact ⟨rfl, ((fs_ e (fs_ e (fs_ e (fs_ e (fs_ e (f0_ e) V in_) U in_) D in_) O in_) ae in_).extR Z)⟩
   have aC := Zi ac ao
   refine qs_ 9 (Za (Y _ _ ?_))
   refine Zh ?_
   refine br_ [.bool false] ?_
   obtain rfl := oi_ aC
   exact ⟨rfl, (fs_ e (fs_ e (fs_ e (fs_ e (f0_ e) V in_) U in_) D in_) O in_)⟩
  have aD := Zi ab an
  refine l_' (.bool false) (Zbl Tryz.prog .eql 39 (.tmp 31) (.const .nilIface) (.iface t77 aR) .nilIface) (Zfd (by kernel_rfl)) (qs_ 13 (Za (Y _ _ ?_)))
  refine Zh ?_
  refine br_ [.bool false] ?_
  obtain rfl := oi_ aD
  exact ⟨rfl, (fs_ e (fs_ e (fs_ e (fs_ e (f0_ e) V in_) U in_) D in_) O in_)⟩
 have aE := Zi aa am
 refine l_' (.bool false) (Zbl Tryz.prog .eql 39 (.tmp 27) (.const .nilIface) (.iface aK aQ) .nilIface) (Zfd (by kernel_rfl)) (qs_ 17 (Za (Y _ _ ?_)))
 refine Zh ?_
 refine br_ [.bool false] ?_
 obtain rfl := oi_ aE
 exact ⟨rfl, (fs_ e (fs_ e (fs_ e (fs_ e (f0_ e) V in_) U in_) D in_) O in_)⟩
theorem ZaR {H : AH} {e : Int} {r : Int}
    (D : WF H) (U : Zab e = some r) :
    ACalls Tryz.prog 9 #[i_ e] H fun v H' => v = .agg #[i_ r, .slice none 0 0] /\ FrS [] H H' := by
 refine ab_ Tryz.func9 ?_
 unfold Zab at U
 refine sq_ fun k1 => g_' ?_
 refine rk_ D [i_ 0, .slice none 0 0] fun b2 ae O Z ad => ?_
 refine Za (k1 _ _ (sq_ fun aa => g_' (qs_ 2 ?_)))
 obtain ⟨V, ab, Y, ac⟩ := ra_ 46 0 O.wf ad [i_ e, .slice none 0 0] [i_ e, .slice none 0 0]
 refine ek_ ab (Za (aa _ _ ?_))
 refine Zh ?_
 refine Zac (vs := [.agg #[i_ e, .slice none 0 0]]) (ZQ (Eq.trans (b := aL_ 46 (pt_ b2 0) V) (by kernel_rfl) (ac.l_)) (rfl)) ?_
 obtain rfl := oi_ U
 exact ⟨rfl, (fs_ D ((f0_ D).extR O) Y (Z.fresh (Nat.le_refl _)))⟩
theorem ZeS {H : AH} {ac : Value} {az : Fp} {af : Int} {at_ : Int} {e : Int} {ag : List (Int × Int)} {r : Int × List (Int × Int)}
    (ae : WF H) (aj : Sq ZaZ 2 H ac ag az) (an : Zb2 af at_ e ag = some r) :
    ACalls Tryz.prog 65 #[i_ af, i_ at_, .agg #[i_ e, ac]] H fun v H' => ∃ (aq : Value) (ai : Fp), v = .agg #[i_ r.1, aq] /\ FrS [] H H' /\ Ow ZaZ 2 H' aq r.2 ai /\ Inn [] H ai := by
 refine ab_ Tryz.func65 ?_
 unfold Zb2 at an
 refine sq_ fun aF => g_' ?_
 refine ZaK ae [i_ e, ac] (Zu (rfl) (Zu (aj.one1) (Z1))) (by kernel_rfl) fun aU aS U aW ap => ?_
 refine rk_ U.wf [i_ 0, .slice none 0 0] fun av aP D aB ad => ?_
 refine Za (aF _ _ (sq_ fun aC => g_' (qs_ 3 ?_)))
 refine Zbo (enc := ZaZ) (sz := 2) D.wf [(af, at_)] 1 (by decide) (fun _ _ => rfl) (fun _ _ => rfl) rfl (by kernel_rfl) fun aY f21 aQ O Z al => ?_
 obtain ⟨aT, aX, aV, rfl⟩ := al.form
 refine qs_ 1 (Za (aC _ _ (sq_ fun aD => g_' (qs_ 2 ?_))))
 have ar := ((ap.ext D).ext O)
 refine lr_ 44 1 (ac) ar ?_
 obtain ⟨aA, aJ⟩ := Zb an
 have aL := (((aj.ext U).ext D).ext O)
 obtain ⟨aZ, aR, ay, aH, ab, am, ak⟩ := Ow.append (P := Tryz.prog) 16 O.wf al aL (fun _ _ => rfl) (at_ := #[44, 44]) rfl rfl (by kernel_rfl) (by kernel_rfl) (by decide) (by have := aA; first | omega | (simp only [List.length_cons, List.length_nil] at this ⊢; omega) | (simp at this ⊢; omega))
 obtain ⟨V, aa, Y, rfl⟩ := am.form
 refine ZaL (.slice V aa Y) (by kernel_rfl) (aH) ?_
 refine qs_ 1 (Za (aD _ _ (sq_ fun aE => g_' (qs_ 1 ?_))))
 have aw := (Z.djn (ap.ltF.le D.n))
 have aM := (ar.frS ab aw)
 refine lr_ 3 0 (i_ e) aM (qs_ 2 ?_)
 have aN := ((ad.ext O).frS ab (Z.djn ad.ltF))
 obtain ⟨au, aI, ah, aK⟩ := ra_ 46 0 ab.wf aN [i_ e, .slice V aa Y] [i_ e, .slice V aa Y]
 refine ek_ aI (Za (aE _ _ ?_))
 refine Zh ?_
 refine Zac (vs := [.agg #[i_ e, .slice V aa Y]]) (ZQ (Eq.trans (b := aL_ 46 (pt_ av 0) au) (by kernel_rfl) (aK.l_)) (rfl)) ?_
 have ao := (t_ U.n D.n)
 have ax := (ak.dj (Z.djn ad.ltF) (ad.ltF.le O.n))
 have aO := (am.fr ah (Dj.symm ax))
 have aG := (t_ (t_ U.n D.n) O.n)
 obtain rfl := oi_ aJ
 exact ⟨(.slice V aa Y), ay, rfl, (fs_ ae (fs_ ae ((((f0_ ae).extR U).extR D).extR O) ab (Z.fresh ao)) ah (aB.fresh U.n)), aO, (Inn.trans (Z.fresh ao) aG ak)⟩
theorem ZdZ {H : AH} {ac : Value} {bS : Fp} {Y : Int} {Arcs : List (Int × Int × Int)} {r : Int × List (Int × Int)}
    (U : WF H) (aK : Sq Zr 3 H ac Arcs bS) (bb : ZaA Y Arcs = some r) :
    ACalls Tryz.prog 40 #[.agg #[i_ Y, ac]] H fun v H' => ∃ (bx : Value) (a1 : Fp), v = .agg #[i_ r.1, bx] /\ FrS [] H H' /\ Ow ZaZ 2 H' bx r.2 a1 /\ Inn [] H a1 := by
 refine ab_ Tryz.func40 ?_
 unfold ZaA at bb
 refine sq_ fun ck => g_' ?_
 refine ZaK U [i_ Y, ac] (Zu (rfl) (Zu (aK.one1) (Z1))) (by kernel_rfl) fun am du V dx aM => ?_
 refine rk_ V.wf [i_ 0, .slice none 0 0] fun ab aw D ap ad => ?_
 refine Za (ck _ _ (sq_ fun ce => sq_ fun cf => ?_))
 obtain ⟨bo, bf, bu⟩ := bs_ bb
 refine ZC (fun α aT => Has α [(1, pt_ am 0), (2, pt_ ab 0), (18, .bool bo)] /\ aw = aT) (fun _ aL => ?_) (fun α aT hM => ?_)
 ·refine g_' (qs_ 1 ?_)
  have aO := (aM.ext D)
  refine lr_ 3 0 (i_ Y) aO ?_
  refine sb_ (Y < 0) (fun aH => ?_) fun aH => ?_
  ·have c4 := Ze aH bf
   refine qs_ 11 (Za ?_)
   obtain rfl := oi_ c4
   exact aL _ _ ⟨ha_, rfl⟩
  have bv := Zi aH bf
  refine qs_ 2 (lr_ 3 0 (i_ Y) aO ?_)
  refine sb_ (Y > 65536) (fun aI => ?_) fun aI => ?_
  ·have c5 := Ze aI bv
   refine qs_ 7 (Za ?_)
   obtain rfl := oi_ c5
   exact aL _ _ ⟨ha_, rfl⟩
  have c6 := Zi aI bv
  refine qs_ 3 (lr_ 22 1 (ac) aO ?_)
  have di := ((aK.ext V).ext D)
  refine di.ln_ 22 (qs_ 2 (Za ?_))
  obtain rfl := oi_ c6
  exact aL _ _ ⟨ha_, rfl⟩
 obtain ⟨a8, rfl⟩ := hM
 obtain ⟨β, rfl⟩ := Zk a8
 clear a8
 refine cf _ _ ?_
 refine wb_ (bo) (fun aJ => ?_) fun aJ => ?_
 ·have c7 := Ze aJ bu
  refine sq_ fun ch => g_' ?_
  obtain ⟨aR, b8, c8⟩ := bs_ c7
  refine ck_ (ZaR D.wf b8) ?_
  rintro _ dt ⟨rfl, az⟩
  have dk := (ad.frS az dn_)
  obtain ⟨bH, cG, bP, c9⟩ := ra_ 46 0 az.wf dk [i_ aR, .slice none 0 0] [i_ aR, .slice none 0 0]
  refine ek_ cG (Za (ch _ _ ?_))
  refine Zh (Zf ?_)
  refine Zac (vs := [.agg #[i_ aR, .slice none 0 0]]) (ZQ (Eq.trans (b := aL_ 46 (pt_ ab 0) bH) (by kernel_rfl) (c9.l_)) (rfl)) ?_
  obtain rfl := oi_ c8
  exact ⟨(.slice none 0 0), [], rfl, (fs_ U (fs_ U (((f0_ U).extR V).extR D) az in_) bP (ap.fresh V.n)), (Ow.nil (by decide)), in_⟩
 have c_ := ZM aJ bu
 refine Zg (ce _ _ (sq_ fun ci => sq_ fun cj => g_' (qs_ 1 ?_)))
 have bA := (aM.ext D)
 refine lr_ 22 1 (ac) bA ?_
 have bB := ((aK.ext V).ext D)
 refine bB.ln_ 22 (qs_ 1 (Za (cj _ _ ?_)))
 obtain ⟨bD, bY, aN⟩ := bs_ c_
 refine ZC (fun α aU => ∃ bp, bD = Sum.inr bp /\ Has α [(2, pt_ ab 0)] /\ FrS [] aw aU) (fun _ cm => ?_) (fun α aU hM => ?_)
 ·refine Zl ?_
  obtain ⟨bm, bV⟩ := Zt.1 bY
  refine ZI (fun n α aV => ∃ (e : Int), ZO (fun zz_ => ZaD Y Arcs zz_) n e = some bD /\ Has α [(1, pt_ am 0), (2, pt_ ab 0), (21, ac), (22, i_ (Arcs.length : Int)), (23, i_ e)] /\ FrS [] aw aV) bm ⟨0, bV, ha_, (fr_ D.wf)⟩ ?_
  rintro bm α aV ⟨e, bU, ba, O⟩ dw cn
  obtain ⟨cC, dm, rfl, aj, aq⟩ := Zx bU
  obtain ⟨β, rfl⟩ := Zk ba
  clear ba
  replace aj : ZaD Y Arcs e = some dm := aj
  unfold ZaD at aj
  refine sn_ (sq_ fun co => ?_)
  refine wc_ (e < (Arcs.length : Int)) (fun ai => ?_) fun ai => ?_
  ·have da := Ze ai aj
   refine Zg (co _ _ (sq_ fun cp => Zl (sq_ fun cq => g_' (qs_ 1 ?_))))
   obtain ⟨a2, db⟩ := Zb da
   have bC := (bB.fr O dn_)
   refine bC.ix_ 22 a2 ai (le_ 106 0 (.agg #[i_ ((gt Arcs e).1), i_ ((gt Arcs e).2.1), i_ ((gt Arcs e).2.2)]) bC a2 ai ?_)
   refine rk_ O.wf [i_ 0, i_ 0, i_ 0] fun bI dv aa ae dc => ?_
   refine qs_ 1 ?_
   obtain ⟨aW, cH, Z, af⟩ := ra_ 106 0 aa.wf dc [i_ ((gt Arcs e).1), i_ ((gt Arcs e).2.1), i_ ((gt Arcs e).2.2)] [i_ ((gt Arcs e).1), i_ ((gt Arcs e).2.1), i_ ((gt Arcs e).2.2)]
   refine ek_ cH (Za (cq _ _ (sq_ fun cr => sq_ fun cu => ?_)))
   obtain ⟨bq, bg, bw⟩ := bs_ db
   refine ZC (fun α aX => Has α [(1, pt_ am 0), (2, pt_ ab 0), (3, i_ e), (4, pt_ bI 0), (21, ac), (22, i_ (Arcs.length : Int)), (23, i_ e), (49, .bool bq)] /\ aW = aX) (fun _ ar => ?_) (fun α aX hM => ?_)
   ·refine g_' (qs_ 1 (lr_ 3 0 (i_ ((gt Arcs e).1)) af ?_))
    refine sb_ (((gt Arcs e).1) < 0) (fun aB => ?_) fun aB => ?_
    ·have cI := Ze aB bg
     refine qs_ 19 (Za ?_)
     obtain rfl := oi_ cI
     exact ar _ _ ⟨ha_, rfl⟩
    have br := Zi aB bg
    refine qs_ 2 (lr_ 3 0 (i_ ((gt Arcs e).1)) af (qs_ 1 ?_))
    have cv := (t_ D.n O.n)
    have bJ := (ae.djn (aM.ltF.le cv))
    have bz := (((bA.frS O dn_).ext aa).frS Z bJ)
    refine lr_ 3 0 (i_ Y) bz ?_
    refine sb_ (((gt Arcs e).1) ≥ Y) (fun aC => ?_) fun aC => ?_
    ·have cJ := Ze aC br
     refine qs_ 13 (Za ?_)
     obtain rfl := oi_ cJ
     exact ar _ _ ⟨ha_, rfl⟩
    have bs := Zi aC br
    refine qs_ 3 (lr_ 3 1 (i_ ((gt Arcs e).2.1)) af ?_)
    refine sb_ (((gt Arcs e).2.1) < 0) (fun aD => ?_) fun aD => ?_
    ·have cK := Ze aD bs
     refine qs_ 8 (Za ?_)
     obtain rfl := oi_ cK
     exact ar _ _ ⟨ha_, rfl⟩
    have cL := Zi aD bs
    refine qs_ 3 (lr_ 3 1 (i_ ((gt Arcs e).2.1)) af (qs_ 1 (lr_ 3 0 (i_ Y) bz (qs_ 2 (Za ?_)))))
    obtain rfl := oi_ cL
    exact ar _ _ ⟨ha_, rfl⟩
   obtain ⟨a6, rfl⟩ := hM
   obtain ⟨β, rfl⟩ := Zk a6
   clear a6
   refine cu _ _ ?_
   refine wb_ (bq) (fun aE => ?_) fun aE => ?_
   ·have cM := Ze aE bw
    refine sq_ fun ca => g_' (qs_ 1 ?_)
    obtain ⟨dC, bZ, cN⟩ := bs_ cM
    refine ck_ (ZaR Z.wf bZ) ?_
    rintro _ dn ⟨rfl, ag⟩
    obtain ⟨aP, b5, cO⟩ := bs_ cN
    refine ck_ (ZeS ag.wf (Sq.nil (enc := ZaZ) (sz := 2) (by decide)) b5) ?_
    rintro _ dp ⟨dy, bQ, rfl, ax, bk, bh⟩
    obtain ⟨ak, au, an, rfl⟩ := bk.form
    have bK := (ae.djn (ad.ltF.le O.n))
    have dd := (((((ad.frS O dn_).ext aa).frS Z bK).frS ag dn_).frS ax dn_)
    obtain ⟨bE, cD, aY, cP⟩ := ra_ 46 0 ax.wf dd [i_ aP.1, .slice ak au an] [i_ aP.1, .slice ak au an]
    refine ek_ cD (Za (ca _ _ ?_))
    refine Zh (Zf (ZD (Zf (Zf (ZD (Zf (Zf ?_)))))))
    obtain ⟨dA, bc, b9⟩ := map_some cO
    subst b9
    obtain rfl := Zv aq
    have bW := elim_inl aN
    rw [bW] at bc
    refine Zac (vs := [.agg #[i_ aP.1, .slice ak au an]]) (ZQ (Eq.trans (b := aL_ 46 (pt_ ab 0) bE) (by kernel_rfl) (cP.l_)) (rfl)) ?_
    have cw := (t_ (t_ V.n D.n) O.n)
    have cx := (t_ (t_ (t_ O.n aa.n) Z.n) ag.n)
    have bL := (bh.djn (ad.ltF.le cx))
    have de := (bk.fr aY (Dj.symm bL))
    have cy := (t_ (t_ (t_ (t_ (t_ V.n D.n) O.n) aa.n) Z.n) ag.n)
    obtain rfl := oi_ bc
    exact ⟨(.slice ak au an), bQ, rfl, (fs_ U (fs_ U (fs_ U (fs_ U ((fs_ U (((f0_ U).extR V).extR D) O in_).extR aa) Z (ae.fresh cw)) ag in_) ax in_) aY (ap.fresh V.n)), de, (bh.fresh cy)⟩
   have cQ := ZM aE bw
   refine Zg (cr _ _ (sq_ fun cc => ?_))
   obtain ⟨bn, be, bt⟩ := bs_ cQ
   refine ZC (fun α aS => Has α [(1, pt_ am 0), (2, pt_ ab 0), (3, i_ e), (21, ac), (22, i_ (Arcs.length : Int)), (23, i_ e), (60, .bool bn)] /\ aW = aS) (fun _ bj => ?_) (fun α aS hM => ?_)
   ·refine g_' (qs_ 1 (lr_ 3 2 (i_ ((gt Arcs e).2.2)) af ?_))
    refine sb_ (((gt Arcs e).2.2) < 0) (fun aF => ?_) fun aF => ?_
    ·have cR := Ze aF be
     refine qs_ 5 (Za ?_)
     obtain rfl := oi_ cR
     exact bj _ _ ⟨ha_, rfl⟩
    have cS := Zi aF be
    refine qs_ 2 (lr_ 3 2 (i_ ((gt Arcs e).2.2)) af (qs_ 2 (Za ?_)))
    obtain rfl := oi_ cS
    exact bj _ _ ⟨ha_, rfl⟩
   obtain ⟨a7, rfl⟩ := hM
   obtain ⟨β, rfl⟩ := Zk a7
   clear a7
   refine cc _ _ ?_
   refine wb_ (bn) (fun aG => ?_) fun aG => ?_
   ·have cT := Ze aG bt
    refine sq_ fun cd => g_' (qs_ 1 ?_)
    obtain ⟨dD, b6, cU⟩ := bs_ cT
    refine ck_ (ZaR Z.wf b6) ?_
    rintro _ dq ⟨rfl, ah⟩
    obtain ⟨aQ, b7, cV⟩ := bs_ cU
    refine ck_ (ZeS ah.wf (Sq.nil (enc := ZaZ) (sz := 2) (by decide)) b7) ?_
    rintro _ dr ⟨dz, bR, rfl, ay, bl, bi⟩
    obtain ⟨al, av, ao, rfl⟩ := bl.form
    have bM := (ae.djn (ad.ltF.le O.n))
    have df := (((((ad.frS O dn_).ext aa).frS Z bM).frS ah dn_).frS ay dn_)
    obtain ⟨bF, cE, aZ, cW⟩ := ra_ 46 0 ay.wf df [i_ aQ.1, .slice al av ao] [i_ aQ.1, .slice al av ao]
    refine ek_ cE (Za (cd _ _ ?_))
    refine Zh (ZD (Zf (Zf (ZD (Zf (Zf ?_))))))
    obtain ⟨dB, bd, b_⟩ := map_some cV
    subst b_
    obtain rfl := Zv aq
    have bX := elim_inl aN
    rw [bX] at bd
    refine Zac (vs := [.agg #[i_ aQ.1, .slice al av ao]]) (ZQ (Eq.trans (b := aL_ 46 (pt_ ab 0) bF) (by kernel_rfl) (cW.l_)) (rfl)) ?_
    have cz := (t_ (t_ V.n D.n) O.n)
    have cA := (t_ (t_ (t_ O.n aa.n) Z.n) ah.n)
    have bN := (bi.djn (ad.ltF.le cA))
    have dg := (bl.fr aZ (Dj.symm bN))
    have cB := (t_ (t_ (t_ (t_ (t_ V.n D.n) O.n) aa.n) Z.n) ah.n)
    obtain rfl := oi_ bd
    exact ⟨(.slice al av ao), bR, rfl, (fs_ U (fs_ U (fs_ U (fs_ U ((fs_ U (((f0_ U).extR V).extR D) O in_).extR aa) Z (ae.fresh cz)) ah in_) ay in_) aZ (ap.fresh V.n)), dg, (bi.fresh cB)⟩
   have cX := ZM aG bt
   refine Zg (cp _ _ (g_' ?_))
   obtain ⟨bT, cY⟩ := Zb cX
   refine w_' ((e + 1)) (Zo (by have := bT; omega)) (qs_ 1 (Za ?_))
   obtain rfl := oi_ cY
   exact cn cC _ _ lt_ ⟨(e + 1), aq, ha_, (fs_ D.wf ((fs_ D.wf (fr_ D.wf) O in_).extR aa) Z (ae.fresh O.n))⟩
  have cZ := Zi ai aj
  refine ZH (Zj (Zj (ZT ?_)))
  obtain rfl := oi_ cZ
  obtain rfl := Zv aq
  exact cm _ _ ⟨_, rfl, ha_, (fs_ D.wf (fr_ D.wf) O in_)⟩
 obtain ⟨bp, rfl, a_, aA⟩ := hM
 have c0 := elim_inr aN
 obtain ⟨β, rfl⟩ := Zk a_
 clear a_
 refine ci _ _ (sq_ fun cg => g_' (qs_ 1 ?_))
 have dh := (ad.frS aA dn_)
 obtain ⟨bG, cF, bO, c3⟩ := ra_ 46 0 aA.wf dh [i_ 0, .slice none 0 0] [i_ 0, .slice none 0 0]
 refine ek_ cF (Za (cg _ _ ?_))
 refine Zh ?_
 refine Zac (vs := [.agg #[i_ 0, .slice none 0 0]]) (ZQ (Eq.trans (b := aL_ 46 (pt_ ab 0) bG) (by kernel_rfl) (c3.l_)) (rfl)) ?_
 obtain rfl := oi_ c0
 exact ⟨(.slice none 0 0), [], rfl, (fs_ U (fs_ U (((f0_ U).extR V).extR D) aA in_) bO (ap.fresh V.n)), (Ow.nil (by decide)), in_⟩
theorem Zbn {H : AH} {D : Value} {ad : Fp} {e : Int} {O : List (Int × Int)} {r : Bool}
    (Z : WF H) (aa : Sq ZaZ 2 H D O ad) (Y : ZY e O = some r) :
    ACalls Tryz.prog 22 #[.agg #[i_ e, D]] H fun v H' => v = .bool r /\ FrS [] H H' := by
 refine ab_ Tryz.func22 ?_
 unfold ZY at Y
 refine sq_ fun k1 => g_' ?_
 refine ZaK Z [i_ e, D] (Zu (rfl) (Zu (aa.one1) (Z1))) (by kernel_rfl) fun b2 ah U ai ac => ?_
 refine qs_ 1 (Za (k1 _ _ (sq_ fun ab => g_' (qs_ 1 (lr_ 3 0 (i_ e) ac ?_)))))
 refine s_bn (e = 0) (by kernel_rfl) (fun V => ?_) (fun V => ?_)
 ·have ae := Ze V Y
  refine qs_ 2 (lr_ 44 1 (D) ac ?_)
  have ag := (aa.ext U)
  refine ag.ln_ 44 (qs_ 3 (Za (ab _ _ ?_)))
  refine Zh ?_
  refine br_ [.bool (decide ((O.length : Int) > 0))] ?_
  obtain rfl := oi_ ae
  exact ⟨rfl, ((f0_ Z).extR U)⟩
 have af := Zi V Y
 refine qs_ 7 (Za (ab _ _ ?_))
 refine Zh ?_
 refine br_ [.bool true] ?_
 obtain rfl := oi_ af
 exact ⟨rfl, ((f0_ Z).extR U)⟩
theorem Zgp {H : AH} {ab : Value} {aw : Fp} {Y : Int} {Arcs : List (Int × Int × Int)} {most : Int} {r : Bool}
    (e : WF H) (ag : Sq Zr 3 H ab Arcs aw) (am : Zcn Y Arcs most = some r) :
    ACalls Tryz.prog 18 #[.agg #[i_ Y, ab], i_ most] H fun v H' => v = .bool r /\ FrS [] H H' := by
 refine ab_ Tryz.func18 ?_
 unfold Zcn at am
 refine sq_ fun k1 => g_' ?_
 refine ZaK e [i_ Y, ab] (Zu (rfl) (Zu (ag.one1) (Z1))) (by kernel_rfl) fun b2 aQ O aT ak => ?_
 refine qs_ 1 (Za (k1 _ _ (sq_ fun az => g_' (lr_ 24 0 (.agg #[i_ Y, ab]) ak ?_))))
 have ar := (ag.ext O)
 obtain ⟨al, ax, aD⟩ := bs_ am
 refine ck_ (ZdZ O.wf ar ax) ?_
 rintro _ aN ⟨aV, f14, rfl, D, ai, aU⟩
 obtain ⟨ad, aj, ae, rfl⟩ := ai.form
 refine rk_ D.wf [i_ 0, .slice none 0 0] fun aS aO U Z aE => ?_
 have aJ := (ai.ext U)
 obtain ⟨aP, aC, V, aF⟩ := ra_ 46 0 U.wf aE [i_ al.1, .slice ad aj ae] [i_ al.1, .slice ad aj ae]
 refine ek_ aC (Za (az _ _ (sq_ fun ah => g_' (lr_ 46 0 (.agg #[i_ al.1, .slice ad aj ae]) aF ?_))))
 have aK := (aJ.fr V (Z.djn ai.lt))
 obtain ⟨aM, ay, ao⟩ := bs_ aD
 refine ck_ (Zbn V.wf aK.sq ay) ?_
 rintro _ aR ⟨rfl, aa⟩
 by_cases ac : aM = true
 ·have aG := Ze ac ao
  rw [ac]
  refine qs_ 14 (Za (ah _ _ ?_))
  refine Zh ?_
  refine br_ [.bool false] ?_
  have aA := (t_ O.n D.n)
  obtain rfl := oi_ aG
  exact ⟨rfl, (fs_ e (fs_ e ((fs_ e ((f0_ e).extR O) D in_).extR U) V (Z.fresh aA)) aa in_)⟩
 have ap := Zi ac ao
 rw [nb ac]
 refine qs_ 3 ?_
 have au := (Z.djn (ak.ltF.le D.n))
 have aq := ((((ak.frS D dn_).ext U).frS V au).frS aa dn_)
 refine lr_ 3 0 (i_ Y) aq (qs_ 1 ?_)
 refine sb_ (Y ≤ most) (fun af => ?_) fun af => ?_
 ·have aH := Ze af ap
  refine qs_ 3 (lr_ 22 1 (ab) aq ?_)
  have an := (t_ O.n D.n)
  have av := (Z.djn (ag.lt.le an))
  have aL := ((((ar.fr D dn_).ext U).fr V av).fr aa dn_)
  refine aL.ln_ 22 (qs_ 3 (Za (ah _ _ ?_)))
  refine Zh ?_
  refine br_ [.bool (decide ((Arcs.length : Int) ≤ 2000))] ?_
  obtain rfl := oi_ aH
  exact ⟨rfl, (fs_ e (fs_ e ((fs_ e ((f0_ e).extR O) D in_).extR U) V (Z.fresh an)) aa in_)⟩
 have aI := Zi af ap
 refine qs_ 8 (Za (ah _ _ ?_))
 refine Zh ?_
 refine br_ [.bool false] ?_
 have aB := (t_ O.n D.n)
 obtain rfl := oi_ aI
 exact ⟨rfl, (fs_ e (fs_ e ((fs_ e ((f0_ e).extR O) D in_).extR U) V (Z.fresh aB)) aa in_)⟩
theorem Zgi {H : AH} {e : Int} {O : Int} {aa : Int} {D : Int} {U : Int} {ab : Int} {r : Bool}
    (Z : WF H) (ae : Zb9 e O aa D U ab = some r) :
    ACalls Tryz.prog 103 #[.agg #[i_ e, i_ O, i_ aa], .agg #[i_ D, i_ U, i_ ab]] H fun v H' => v = .bool r /\ FrS [] H H' := by
 refine ab_ Tryz.func103 ?_
 unfold Zb9 at ae
 refine sq_ fun k1 => g_' ?_
 refine rl_ Z [i_ e, i_ O, i_ aa] fun b2 an Y ar am => ?_
 refine rl_ Y.wf [i_ D, i_ U, i_ ab] fun ap ao V aq ag => ?_
 refine qs_ 1 (Za (k1 _ _ (sq_ fun af => g_' (qs_ 1 ?_))))
 have ah := (am.ext V)
 refine lr_ 3 0 (i_ e) ah (qs_ 1 (lr_ 3 0 (i_ D) ag ?_))
 refine sb_ (e < D) (fun ac => ?_) fun ac => ?_
 ·have aj := Ze ac ae
  refine qs_ 15 (Za (af _ _ ?_))
  refine Zh ?_
  refine br_ [.bool true] ?_
  obtain rfl := oi_ aj
  exact ⟨rfl, (((f0_ Z).extR Y).extR V)⟩
 have ai := Zi ac ae
 refine qs_ 2 (lr_ 3 0 (i_ e) ah (qs_ 1 (lr_ 3 0 (i_ D) ag ?_)))
 refine sb_ (e = D) (fun ad => ?_) fun ad => ?_
 ·have ak := Ze ad ai
  refine qs_ 2 (lr_ 3 1 (i_ O) ah (qs_ 1 (lr_ 3 1 (i_ U) ag (qs_ 4 (Za (af _ _ ?_))))))
  refine Zh ?_
  refine br_ [.bool (decide (O < U))] ?_
  obtain rfl := oi_ ak
  exact ⟨rfl, (((f0_ Z).extR Y).extR V)⟩
 have al := Zi ad ai
 refine qs_ 9 (Za (af _ _ ?_))
 refine Zh ?_
 refine br_ [.bool false] ?_
 obtain rfl := oi_ al
 exact ⟨rfl, (((f0_ Z).extR Y).extR V)⟩
theorem ZgR {H : AH} {ab : Value} {bO : Fp} {l : List (Int × Int × Int)} {Y : Int} {Z : Int} {O : Int} {r : List (Int × Int × Int)}
    (aa : WF H) (ao : Sq Zr 3 H ab l bO) (bd : Zcq l Y Z O = some r) :
    ACalls Tryz.prog 82 #[ab, .agg #[i_ Y, i_ Z, i_ O]] H fun v H' => ∃ (bs : Value) (aV : Fp), v = bs /\ FrS [] H H' /\ Ow Zr 3 H' bs r aV /\ Inn [] H aV := by
 refine ab_ Tryz.func82 ?_
 unfold Zcq at bd
 refine sq_ fun cf => g_' ?_
 refine rl_ aa [i_ Y, i_ Z, i_ O] fun aB aQ D aX aq => ?_
 refine qs_ 1 (Za (cf _ _ (sn_ (sq_ fun b9 => ?_))))
 obtain ⟨e, b5, cK⟩ := bs_ bd
 refine ZC (fun α aO => Has α [(0, ab), (3, pt_ aB 0), (5, i_ e)] /\ FrS [] aQ aO) (fun _ bi => ?_) (fun α aO hM => ?_)
 ·refine Zl ?_
  obtain ⟨bm, bZ⟩ := Zt.1 b5
  refine ZI (fun n α aP => ∃ (ac : Int), ZO (fun zz_ => ZbC l Y Z O zz_) n ac = some e /\ Has α [(0, ab), (3, pt_ aB 0), (5, i_ ac)] /\ FrS [] aQ aP) bm ⟨0, bZ, ha_, (fr_ D.wf)⟩ ?_
  rintro bm α aP ⟨ac, bY, a2, aj⟩ dh cc
  obtain ⟨cq, c9, rfl, ap, aJ⟩ := Zx bY
  obtain ⟨β, rfl⟩ := Zk a2
  clear a2
  replace ap : ZbC l Y Z O ac = some c9 := ap
  unfold ZbC at ap
  refine sq_ fun cd => sq_ fun bj => ?_
  refine ZR [0, 1, 2, 3, 4, 5, 6, 7, 8, 9, 10, 11] (by kernel_rfl) ?_
  refine es_ 2 ?_
  have aN := ((ao.ext D).fr aj dn_)
  refine aN.mn_ 22 ?_
  refine db_ (ac < (l.length : Int)) (fun an => ?_) fun an => ?_
  ·have cN := Ze an ap
   refine es_ 3 ?_
   obtain ⟨aW, cO⟩ := Zb cN
   refine aN.mx_ 22 aW an (me_ 106 0 (.agg #[i_ ((gt l ac).1), i_ ((gt l ac).2.1), i_ ((gt l ac).2.2)]) aN aW an ?_)
   have c7 := (aq.frS aj dn_)
   refine mr_ 106 0 (.agg #[i_ Y, i_ Z, i_ O]) c7 ?_
   obtain ⟨c8, b6, bp⟩ := bs_ cO
   refine dk_ (Zgi aj.wf b6) ?_
   rintro _ dg ⟨rfl, aU⟩
   refine ⟨ZL, ?_⟩
   refine es_ 1 ?_
   refine ZK ?_
   refine bj _ _ ?_
   refine wb_ (c8) (fun aF => ?_) fun aF => ?_
   ·have cP := Ze aF bp
    refine Zg (cd _ _ (Zl (g_' (qs_ 1 ?_))))
    obtain ⟨bU, cQ⟩ := Zb cP
    refine w_' ((ac + 1)) (Zo (by have := bU; omega)) (qs_ 1 (Za ?_))
    obtain rfl := oi_ cQ
    exact cc cq _ _ lt_ ⟨(ac + 1), aJ, ha_, (fs_ D.wf (fs_ D.wf (fr_ D.wf) aj in_) aU in_)⟩
   have cR := ZM aF bp
   refine ZH (Zj (Zj (ZT ?_)))
   obtain rfl := oi_ cR
   obtain rfl := Zv aJ
   exact bi _ _ ⟨ha_, (fs_ D.wf (fs_ D.wf (fr_ D.wf) aj in_) aU in_)⟩
  have cS := Zi an ap
  refine es_ 8 ?_
  refine ZK ?_
  refine bj _ _ ?_
  refine wb_ false (fun h => by cases h) fun _ => ?_
  refine ZH (Zj (Zj (ZT ?_)))
  obtain rfl := oi_ cS
  obtain rfl := Zv aJ
  exact bi _ _ ⟨ha_, (fs_ D.wf (fr_ D.wf) aj in_)⟩
 obtain ⟨a1, U⟩ := hM
 obtain ⟨β, rfl⟩ := Zk a1
 clear a1
 refine b9 _ _ (sn_ (sq_ fun ce => g_' (qs_ 3 ?_)))
 obtain ⟨al, cT⟩ := Zb cK
 have ay := ((ao.ext D).fr U dn_)
 obtain ⟨dH, cB, bg⟩ := Sq.cut (P := Tryz.prog) ay (t := 22) (by kernel_rfl) (lo := none) (hi := (some (i_ e))) (l := 0) (r := e.toNat) (rfl) (ZcM _ (by have := al; omega)) (by have := al; omega) (by have := al; omega)
 obtain ⟨bB, cr, bG, rfl⟩ := bg.form
 refine Zbi (.slice bB cr bG) (by kernel_rfl) cB ?_
 obtain ⟨bV, cU⟩ := Zb cT
 obtain ⟨dI, bv, du, cC, V, aI, ae⟩ := Ow.append (P := Tryz.prog) 24 U.wf (Ow.nil (enc := Zr) (sz := 3) (by decide)) bg (fun _ _ => rfl) (at_ := #[22, 22]) rfl rfl (by kernel_rfl) (by kernel_rfl) (by decide) (by have := bV; first | omega | (simp only [List.length_cons, List.length_nil] at this ⊢; omega) | (simp at this ⊢; omega))
 obtain ⟨aS, bn, aT, rfl⟩ := aI.form
 refine ZaL (.slice aS bn aT) (by kernel_rfl) (cC) ?_
 refine qs_ 1 (Za (ce _ _ (sq_ fun cg => sq_ fun ch => ?_)))
 obtain ⟨bo, bh, bq⟩ := bs_ cU
 refine ZC (fun α aR => Has α [(0, ab), (3, pt_ aB 0), (5, i_ e), (6, .slice aS bn aT), (49, .bool bo)] /\ bv = aR) (fun _ aK => ?_) (fun α aR hM => ?_)
 ·refine ZR [0, 1, 2, 3, 4, 5, 6, 7, 8, 9, 10, 11, 12, 13, 14, 15, 16, 17, 18, 19, 20, 21, 22, 23] (by kernel_rfl) ?_
  refine es_ 2 ?_
  have af := (ay.fr V dn_)
  refine af.mn_ 22 ?_
  refine db_ (e < (l.length : Int)) (fun ad => ?_) fun ad => ?_
  ·have cV := Ze ad bh
   refine es_ 3 ?_
   obtain ⟨am, br⟩ := Zb cV
   refine af.mx_ 22 am ad (m_' (elp ab 3 e.toNat 0) (Zy Tryz.prog 106 (elp ab 3 e.toNat 0) 0) (Sq.fldq (d := 0) af am ad (by kernel_rfl)) (me_ 3 0 (i_ ((gt l e).1)) af am ad (es_ 1 ?_)))
   have bt := ((aq.frS U dn_).frS V dn_)
   refine mr_ 3 0 (i_ Y) bt ?_
   refine db_ (((gt l e).1) = Y) (fun aG => ?_) fun aG => ?_
   ·have cW := Ze aG br
    refine es_ 4 (af.mx_ 22 am ad (m_' (elp ab 3 e.toNat 1) (Zy Tryz.prog 106 (elp ab 3 e.toNat 0) 1) (Sq.fldq (d := 1) af am ad (by kernel_rfl)) (me_ 3 1 (i_ ((gt l e).2.1)) af am ad (es_ 1 (mr_ 3 1 (i_ Z) bt (es_ 2 ?_))))))
    refine ZK ?_
    obtain rfl := oi_ cW
    exact aK _ _ ⟨ha_, rfl⟩
   have cX := Zi aG br
   refine es_ 11 ?_
   refine ZK ?_
   obtain rfl := oi_ cX
   exact aK _ _ ⟨ha_, rfl⟩
  have cY := Zi ad bh
  refine es_ 20 ?_
  refine ZK ?_
  obtain rfl := oi_ cY
  exact aK _ _ ⟨ha_, rfl⟩
 obtain ⟨a6, rfl⟩ := hM
 obtain ⟨β, rfl⟩ := Zk a6
 clear a6
 refine ch _ _ ?_
 refine wb_ (bo) (fun aH => ?_) fun aH => ?_
 ·have cZ := Ze aH bq
  refine sq_ fun ci => ?_
  refine ZR [0, 1, 2, 3, 4, 5, 6, 7, 8, 9] (by kernel_rfl) ?_
  refine es_ 1 ?_
  have bu := ((aq.frS U dn_).frS V dn_)
  refine mr_ 3 2 (i_ O) bu (es_ 2 ?_)
  obtain ⟨ak, cD⟩ := Zb cZ
  have ax := (ay.fr V dn_)
  refine ax.mx_ 22 ak.1 ak.2 (m_' (elp ab 3 e.toNat 2) (Zy Tryz.prog 106 (elp ab 3 e.toNat 0) 2) (Sq.fldq (d := 2) ax ak.1 ak.2 (by kernel_rfl)) (me_ 3 2 (i_ ((gt l e).2.2)) ax ak.1 ak.2 (m_' (i_ (min O ((gt l e).2.2))) (ZgF Tryz.prog [i_ O, i_ ((gt l e).2.2)]) (Zht _ _) (es_ 1 ?_))))
  obtain ⟨c_, cu, ag, cE⟩ := rb_ 3 2 V.wf bu (i_ (min O ((gt l e).2.2))) [i_ Y, i_ Z, i_ (min O ((gt l e).2.2))]
  refine fk_ cu (ZL) ?_
  refine ZK ?_
  refine ci _ _ (sq_ fun b7 => g_' (qs_ 1 (lr_ 106 0 (.agg #[i_ Y, i_ Z, i_ (min O ((gt l e).2.2))]) cE ?_)))
  refine Zbo (enc := Zr) (sz := 3) ag.wf [(Y, Z, (min O ((gt l e).2.2)))] 1 (by decide) (fun _ _ => rfl) (fun _ _ => rfl) rfl (by kernel_rfl) fun dz dp da ah dv a7 => ?_
  obtain ⟨di, dx, dm, rfl⟩ := a7.form
  have bH := (ae.djn (aq.ltF.le U.n))
  have c0 := ((aI.fr ag (Dj.symm bH)).ext ah)
  obtain ⟨bP, cF⟩ := Zb cD
  obtain ⟨dA, db, dq, cv, ar, a8, aY⟩ := Ow.append (P := Tryz.prog) 24 ah.wf c0 a7.sq (fun _ _ => rfl) (at_ := #[22, 22]) rfl rfl (by kernel_rfl) (by kernel_rfl) (by decide) (by have := bP; first | omega | (simp only [List.length_cons, List.length_nil] at this ⊢; omega) | (simp at this ⊢; omega))
  obtain ⟨bw, cj, bC, rfl⟩ := a8.form
  refine ZaL (.slice bw cj bC) (by kernel_rfl) (cv) ?_
  refine qs_ 1 (Za (b7 _ _ (sq_ fun b8 => g_' (qs_ 3 ?_))))
  obtain ⟨bQ, cG⟩ := Zb cF
  refine w_' ((e + 1)) (Zo (by have := bQ; omega)) ?_
  obtain ⟨aE, cH⟩ := Zb cG
  have av := (t_ D.n U.n)
  have bI := (ae.djn (ao.lt.le av))
  have c3 := (((ax.fr ag (aX.djn ao.lt)).ext ah).fr ar bI)
  obtain ⟨dB, cw, be⟩ := Sq.cut (P := Tryz.prog) c3 (t := 22) (by kernel_rfl) (lo := (some (i_ (e + 1)))) (hi := none) (l := (e + 1).toNat) (r := l.length) (ZcM _ (by have := aE; omega)) (rfl) (by have := aE; omega) (by have := aE; omega)
  obtain ⟨bx, ck, bD, rfl⟩ := be.form
  refine Zbi (.slice bx ck bD) (by kernel_rfl) cw ?_
  obtain ⟨bR, cI⟩ := Zb cH
  obtain ⟨dC, dc, bM, cx, bK, a_, bW⟩ := Ow.append (P := Tryz.prog) 24 ar.wf a8 be (fun _ _ => rfl) (at_ := #[22, 22]) rfl rfl (by kernel_rfl) (by kernel_rfl) (by decide) (by have := bR; first | omega | (simp only [List.length_cons, List.length_nil] at this ⊢; omega) | (simp at this ⊢; omega))
  obtain ⟨az, aL, aC, rfl⟩ := a_.form
  refine ZaL (.slice az aL aC) (by kernel_rfl) (cx) ?_
  refine qs_ 1 (Za (b8 _ _ ?_))
  refine Zh (Zf ?_)
  refine br_ [.slice az aL aC] ?_
  have bk := (t_ (t_ (t_ (t_ D.n U.n) V.n) ag.n) ah.n)
  have cm := (t_ (t_ (t_ (t_ (t_ D.n U.n) V.n) ag.n) ah.n) ar.n)
  obtain rfl := oi_ cI
  exact ⟨(.slice az aL aC), bM, rfl, (fs_ aa (fs_ aa ((fs_ aa (fs_ aa (fs_ aa ((f0_ aa).extR D) U in_) V in_) ag (aX.fresh (Nat.le_refl _))).extR ah) ar (ae.fresh av)) bK (Inn.trans (ae.fresh av) bk aY)), a_, (Inn.trans (Inn.trans (ae.fresh av) bk aY) cm bW)⟩
 have cJ := ZM aH bq
 refine Zg (cg _ _ (sq_ fun b_ => g_' (qs_ 1 ?_)))
 have c4 := ((aq.frS U dn_).frS V dn_)
 refine lr_ 106 0 (.agg #[i_ Y, i_ Z, i_ O]) c4 ?_
 refine Zbo (enc := Zr) (sz := 3) V.wf [(Y, Z, O)] 1 (by decide) (fun _ _ => rfl) (fun _ _ => rfl) rfl (by kernel_rfl) fun dD dr dd ai dw ba => ?_
 obtain ⟨dk, dy, dn, rfl⟩ := ba.form
 have c5 := (aI.ext ai)
 obtain ⟨bS, cL⟩ := Zb cJ
 obtain ⟨dE, de, dt, cy, au, bb, aZ⟩ := Ow.append (P := Tryz.prog) 24 ai.wf c5 ba.sq (fun _ _ => rfl) (at_ := #[22, 22]) rfl rfl (by kernel_rfl) (by kernel_rfl) (by decide) (by have := bS; first | omega | (simp only [List.length_cons, List.length_nil] at this ⊢; omega) | (simp at this ⊢; omega))
 obtain ⟨bz, cn, bE, rfl⟩ := bb.form
 refine ZaL (.slice bz cn bE) (by kernel_rfl) (cy) ?_
 refine qs_ 1 (Za (b_ _ _ (sq_ fun ca => g_' (qs_ 3 ?_))))
 have aw := (t_ D.n U.n)
 have bJ := (ae.djn (ao.lt.le aw))
 have c6 := (((ay.fr V dn_).ext ai).fr au bJ)
 obtain ⟨dF, cz, bf⟩ := Sq.cut (P := Tryz.prog) c6 (t := 22) (by kernel_rfl) (lo := (some (i_ e))) (hi := none) (l := e.toNat) (r := l.length) (ZcM _ (by have := al; omega)) (rfl) (by have := al; omega) (by have := al; omega)
 obtain ⟨bA, co, bF, rfl⟩ := bf.form
 refine Zbi (.slice bA co bF) (by kernel_rfl) cz ?_
 obtain ⟨bT, cM⟩ := Zb cL
 obtain ⟨dG, df, bN, cA, bL, bc, bX⟩ := Ow.append (P := Tryz.prog) 24 au.wf bb bf (fun _ _ => rfl) (at_ := #[22, 22]) rfl rfl (by kernel_rfl) (by kernel_rfl) (by decide) (by have := bT; first | omega | (simp only [List.length_cons, List.length_nil] at this ⊢; omega) | (simp at this ⊢; omega))
 obtain ⟨aA, aM, aD, rfl⟩ := bc.form
 refine ZaL (.slice aA aM aD) (by kernel_rfl) (cA) ?_
 refine qs_ 1 (Za (ca _ _ ?_))
 refine Zh ?_
 refine br_ [.slice aA aM aD] ?_
 have bl := (t_ (t_ (t_ D.n U.n) V.n) ai.n)
 have cp := (t_ (t_ (t_ (t_ D.n U.n) V.n) ai.n) au.n)
 obtain rfl := oi_ cM
 exact ⟨(.slice aA aM aD), bN, rfl, (fs_ aa (fs_ aa ((fs_ aa (fs_ aa ((f0_ aa).extR D) U in_) V in_).extR ai) au (ae.fresh aw)) bL (Inn.trans (ae.fresh aw) bl aZ)), bc, (Inn.trans (Inn.trans (ae.fresh aw) bl aZ) cp bX)⟩
end Go.Vd
