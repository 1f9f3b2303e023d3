/- The walks of the functions (printed by a program of ours). -/
import Derived.Test.YtnepbkkdhalbiaaGreatDoorPsx1
import Derived.Test.YtnepbkkdhalbiaaGreatDoorPsxISx
import Derived.Test.YtnepbkkdhalbiaaGreatDoorPsxVeN
import Derived.Test.YtnepbkkdhalbiaaGreatDoorPsxSoA
import Derived.Test.YtnepbkkdhalbiaaGreatDoorPsxVeV
set_option linter.unusedVariables false
set_option linter.unusedSimpArgs false
set_option linter.unusedSectionVars false
/-! (KSx0) -/

set_option maxRecDepth 100000
set_option maxHeartbeats 4000000
set_option linter.unusedVariables false
namespace Go.Vd
open Go.Proofs
attribute [local irreducible] Zh Zk aWp
set_option linter.unusedSimpArgs false
theorem ZaZ {α : Type} (P : Program) (a : α) : pr P (pure a : Sem α) = some a := rfl
theorem Zit {P : Program} : pr P (program : Sem Program) = some P := rfl
theorem ZgV {P : Program} {t : TypeId} {d : TypeDesc} (h : P.underlying t = some d) : pr P (underlying t) = some d := by
  simp only [underlying, ZD]
  show ((pr P (program : Sem Program)).bind _) = _
  simp [show pr P (program : Sem Program) = some P from rfl, h]
  rfl
theorem Zej {P : Program} (d : Nat) (t : TypeId) (k : IntKind) (h : P.underlying t = some (.int k)) (a c : Int) : pr P (Op.equalIn (d+1) t (.int k a) (.int k c)) = some (a == c) := by
  simp only [Op.equalIn, ZD, ZgV h]
  simp [ZaZ]
theorem e_bool {P : Program} (d : Nat) (t : TypeId) (h : P.underlying t = some .bool) (a c : Bool) : pr P (Op.equalIn (d+1) t (.bool a) (.bool c)) = some (a == c) := by
  simp only [Op.equalIn, ZD, ZgV h]
  simp [ZaZ]
theorem ZfQ (a0 : Int) (e : Int) (D : Int) : pr Tryz.prog (part 3 #[i_ a0, i_ e, .int .u64 D] 0) = some (i_ a0) := by kernel_rfl
theorem Zfj (a c : Int) : pr Tryz.prog (Op.equalIn 9999 3 (i_ a) (i_ c)) = some (a == c) := Zej 9998 3 .i64 Go.Proofs.Tryz.underlying3 a c
theorem Zfy (a0 : Int) (e : Int) (D : Int) : pr Tryz.prog (part 3 #[i_ a0, i_ e, .int .u64 D] 1) = some (i_ e) := by kernel_rfl
theorem ZfJ (a c : Int) : pr Tryz.prog (Op.equalIn 9999 3 (i_ a) (i_ c)) = some (a == c) := Zej 9998 3 .i64 Go.Proofs.Tryz.underlying3 a c
theorem ZfB (a0 : Int) (D : Int) (e : Int) : pr Tryz.prog (part 27 #[i_ a0, i_ D, .int .u64 e] 2) = some (.int .u64 e) := by kernel_rfl
theorem ZfN (a c : Int) : pr Tryz.prog (Op.equalIn 9999 27 (.int .u64 a) (.int .u64 c)) = some (a == c) := Zej 9998 27 .u64 Go.Proofs.Tryz.underlying27 a c
theorem Zkr : Tryz.prog.stoodInHeld 72 = false := by kernel_rfl
theorem Zk6 (a0 : Int) (e : Int) (D : Int) (I : Int) (c1 : Int) (c2 : Int) : pr Tryz.prog (Op.equalIn Op.maxDepth 72 (.agg #[i_ a0, i_ e, .int .u64 D]) (.agg #[i_ I, i_ c1, .int .u64 c2])) = some (a0 == I && e == c1 && D == c2) := by
  rw [show Op.maxDepth = 9998 + 1 + 1 from rfl, Op.equalIn]
  rw [ZD, ZgV Go.Proofs.Tryz.underlying72]
  simp only [Option.bind_some, ZD, Zit, Zkr, Bool.false_eq_true, if_false]
  simp [ZD, ZfQ, Zfy, ZfB, Zfj, ZfJ, ZfN]
  by_cases O : a0 = I
  · subst O
    by_cases U : e = c1
    · subst U
      by_cases V : D = c2
      · subst V
        simp [ZaZ, ZD, ZfQ, Zfy, ZfB, Zfj, ZfJ, ZfN]
      · simp [ZaZ, ZD, ZfQ, Zfy, ZfB, Zfj, ZfJ, ZfN, V]
    · simp [ZaZ, ZD, ZfQ, Zfy, ZfB, Zfj, ZfJ, ZfN, U]
  · simp [ZaZ, ZD, ZfQ, Zfy, ZfB, Zfj, ZfJ, ZfN, O]
theorem Zli (x y : Operand) (a0 : Int) (e : Int) (D : Int) (I : Int) (c1 : Int) (c2 : Int) : pr Tryz.prog (eqGuard .neq 72 x y (.agg #[i_ a0, i_ e, .int .u64 D]) (.agg #[i_ I, i_ c1, .int .u64 c2])) = some () := by kernel_rfl
theorem ZjV (x y : Operand) (a0 : Int) (e : Int) (D : Int) (I : Int) (c1 : Int) (c2 : Int) : Z2 Tryz.prog .neq 72 x y (.agg #[i_ a0, i_ e, .int .u64 D]) (.agg #[i_ I, i_ c1, .int .u64 c2]) = some (.bool (!decide (a0 = I /\ e = c1 /\ D = c2))) := by
  unfold Z2
  rw [if_pos (show (plain (.agg #[i_ a0, i_ e, .int .u64 D]) && plain (.agg #[i_ I, i_ c1, .int .u64 c2])) = true from rfl), ZD, Zli]
  have : pr Tryz.prog (binOp .neq 72 (.agg #[i_ a0, i_ e, .int .u64 D]) (.agg #[i_ I, i_ c1, .int .u64 c2])) = some (.bool (!decide (a0 = I /\ e = c1 /\ D = c2))) := by
    simp only [binOp, Op.equal, ZD, Zk6]
    by_cases O : a0 = I <;> by_cases U : e = c1 <;> by_cases V : D = c2 <;> simp [ZaZ, O, U, V]
  simp only [Option.bind_some, this]
  rfl
theorem Zlv (x y : Operand) (a0 : Int) (e : Int) (D : Int) (I : Int) (c1 : Int) (c2 : Int) : pr Tryz.prog (eqGuard .eql 72 x y (.agg #[i_ a0, i_ e, .int .u64 D]) (.agg #[i_ I, i_ c1, .int .u64 c2])) = some () := by kernel_rfl
theorem Znz (x y : Operand) (a0 : Int) (e : Int) (D : Int) (I : Int) (c1 : Int) (c2 : Int) : Z2 Tryz.prog .eql 72 x y (.agg #[i_ a0, i_ e, .int .u64 D]) (.agg #[i_ I, i_ c1, .int .u64 c2]) = some (.bool (decide (a0 = I /\ e = c1 /\ D = c2))) := by
  unfold Z2
  rw [if_pos (show (plain (.agg #[i_ a0, i_ e, .int .u64 D]) && plain (.agg #[i_ I, i_ c1, .int .u64 c2])) = true from rfl), ZD, Zlv]
  have : pr Tryz.prog (binOp .eql 72 (.agg #[i_ a0, i_ e, .int .u64 D]) (.agg #[i_ I, i_ c1, .int .u64 c2])) = some (.bool (decide (a0 = I /\ e = c1 /\ D = c2))) := by
    simp only [binOp, Op.equal, ZD, Zk6]
    by_cases O : a0 = I <;> by_cases U : e = c1 <;> by_cases V : D = c2 <;> simp [ZaZ, O, U, V]
  simp only [Option.bind_some, this]
  rfl
theorem Zfo (a0 : Int) (e : Int) (D : Int) : pr Tryz.prog (part 3 #[i_ a0, .int .u64 e, i_ D] 0) = some (i_ a0) := by kernel_rfl
theorem Zfn (a c : Int) : pr Tryz.prog (Op.equalIn 9999 3 (i_ a) (i_ c)) = some (a == c) := Zej 9998 3 .i64 Go.Proofs.Tryz.underlying3 a c
theorem ZfI (a0 : Int) (e : Int) (D : Int) : pr Tryz.prog (part 27 #[i_ a0, .int .u64 e, i_ D] 1) = some (.int .u64 e) := by kernel_rfl
theorem ZfC (a c : Int) : pr Tryz.prog (Op.equalIn 9999 27 (.int .u64 a) (.int .u64 c)) = some (a == c) := Zej 9998 27 .u64 Go.Proofs.Tryz.underlying27 a c
theorem ZfH (a0 : Int) (D : Int) (e : Int) : pr Tryz.prog (part 3 #[i_ a0, .int .u64 D, i_ e] 2) = some (i_ e) := by kernel_rfl
theorem ZfE (a c : Int) : pr Tryz.prog (Op.equalIn 9999 3 (i_ a) (i_ c)) = some (a == c) := Zej 9998 3 .i64 Go.Proofs.Tryz.underlying3 a c
theorem Zkj : Tryz.prog.stoodInHeld 80 = false := by kernel_rfl
theorem Zks (a0 : Int) (e : Int) (D : Int) (I : Int) (c1 : Int) (c2 : Int) : pr Tryz.prog (Op.equalIn Op.maxDepth 80 (.agg #[i_ a0, .int .u64 e, i_ D]) (.agg #[i_ I, .int .u64 c1, i_ c2])) = some (a0 == I && e == c1 && D == c2) := by
  rw [show Op.maxDepth = 9998 + 1 + 1 from rfl, Op.equalIn]
  rw [ZD, ZgV Go.Proofs.Tryz.underlying80]
  simp only [Option.bind_some, ZD, Zit, Zkj, Bool.false_eq_true, if_false]
  simp [ZD, Zfo, ZfI, ZfH, Zfn, ZfC, ZfE]
  by_cases O : a0 = I
  · subst O
    by_cases U : e = c1
    · subst U
      by_cases V : D = c2
      · subst V
        simp [ZaZ, ZD, Zfo, ZfI, ZfH, Zfn, ZfC, ZfE]
      · simp [ZaZ, ZD, Zfo, ZfI, ZfH, Zfn, ZfC, ZfE, V]
    · simp [ZaZ, ZD, Zfo, ZfI, ZfH, Zfn, ZfC, ZfE, U]
  · simp [ZaZ, ZD, Zfo, ZfI, ZfH, Zfn, ZfC, ZfE, O]
theorem ZlA (x y : Operand) (a0 : Int) (e : Int) (D : Int) (I : Int) (c1 : Int) (c2 : Int) : pr Tryz.prog (eqGuard .neq 80 x y (.agg #[i_ a0, .int .u64 e, i_ D]) (.agg #[i_ I, .int .u64 c1, i_ c2])) = some () := by kernel_rfl
theorem Zny (x y : Operand) (a0 : Int) (e : Int) (D : Int) (I : Int) (c1 : Int) (c2 : Int) : Z2 Tryz.prog .neq 80 x y (.agg #[i_ a0, .int .u64 e, i_ D]) (.agg #[i_ I, .int .u64 c1, i_ c2]) = some (.bool (!decide (a0 = I /\ e = c1 /\ D = c2))) := by
  unfold Z2
  rw [if_pos (show (plain (.agg #[i_ a0, .int .u64 e, i_ D]) && plain (.agg #[i_ I, .int .u64 c1, i_ c2])) = true from rfl), ZD, ZlA]
  have : pr Tryz.prog (binOp .neq 80 (.agg #[i_ a0, .int .u64 e, i_ D]) (.agg #[i_ I, .int .u64 c1, i_ c2])) = some (.bool (!decide (a0 = I /\ e = c1 /\ D = c2))) := by
    simp only [binOp, Op.equal, ZD, Zks]
    by_cases O : a0 = I <;> by_cases U : e = c1 <;> by_cases V : D = c2 <;> simp [ZaZ, O, U, V]
  simp only [Option.bind_some, this]
  rfl
theorem Zlo (x y : Operand) (a0 : Int) (e : Int) (D : Int) (I : Int) (c1 : Int) (c2 : Int) : pr Tryz.prog (eqGuard .eql 80 x y (.agg #[i_ a0, .int .u64 e, i_ D]) (.agg #[i_ I, .int .u64 c1, i_ c2])) = some () := by kernel_rfl
theorem Zj8 (x y : Operand) (a0 : Int) (e : Int) (D : Int) (I : Int) (c1 : Int) (c2 : Int) : Z2 Tryz.prog .eql 80 x y (.agg #[i_ a0, .int .u64 e, i_ D]) (.agg #[i_ I, .int .u64 c1, i_ c2]) = some (.bool (decide (a0 = I /\ e = c1 /\ D = c2))) := by
  unfold Z2
  rw [if_pos (show (plain (.agg #[i_ a0, .int .u64 e, i_ D]) && plain (.agg #[i_ I, .int .u64 c1, i_ c2])) = true from rfl), ZD, Zlo]
  have : pr Tryz.prog (binOp .eql 80 (.agg #[i_ a0, .int .u64 e, i_ D]) (.agg #[i_ I, .int .u64 c1, i_ c2])) = some (.bool (decide (a0 = I /\ e = c1 /\ D = c2))) := by
    simp only [binOp, Op.equal, ZD, Zks]
    by_cases O : a0 = I <;> by_cases U : e = c1 <;> by_cases V : D = c2 <;> simp [ZaZ, O, U, V]
  simp only [Option.bind_some, this]
  rfl
theorem ZfR (a0 : Int) (e : Int) : pr Tryz.prog (part 101 #[i_ a0, i_ e] 0) = some (i_ a0) := by kernel_rfl
theorem ZfY (a c : Int) : pr Tryz.prog (Op.equalIn 9999 101 (i_ a) (i_ c)) = some (a == c) := Zej 9998 101 .i64 Go.Proofs.Tryz.underlying101 a c
theorem ZfX (a0 : Int) (e : Int) : pr Tryz.prog (part 3 #[i_ a0, i_ e] 1) = some (i_ e) := by kernel_rfl
theorem ZfU (a c : Int) : pr Tryz.prog (Op.equalIn 9999 3 (i_ a) (i_ c)) = some (a == c) := Zej 9998 3 .i64 Go.Proofs.Tryz.underlying3 a c
theorem Zjt : Tryz.prog.stoodInHeld 115 = false := by kernel_rfl
theorem Zjj (a0 : Int) (e : Int) (D : Int) (c1 : Int) : pr Tryz.prog (Op.equalIn Op.maxDepth 115 (.agg #[i_ a0, i_ e]) (.agg #[i_ D, i_ c1])) = some (a0 == D && e == c1) := by
  rw [show Op.maxDepth = 9998 + 1 + 1 from rfl, Op.equalIn]
  rw [ZD, ZgV Go.Proofs.Tryz.underlying115]
  simp only [Option.bind_some, ZD, Zit, Zjt, Bool.false_eq_true, if_false]
  simp [ZD, ZfR, ZfX, ZfY, ZfU]
  by_cases I : a0 = D
  · subst I
    by_cases O : e = c1
    · subst O
      simp [ZaZ, ZD, ZfR, ZfX, ZfY, ZfU]
    · simp [ZaZ, ZD, ZfR, ZfX, ZfY, ZfU, O]
  · simp [ZaZ, ZD, ZfR, ZfX, ZfY, ZfU, I]
theorem Zko (x y : Operand) (a0 : Int) (e : Int) (D : Int) (c1 : Int) : pr Tryz.prog (eqGuard .neq 115 x y (.agg #[i_ a0, i_ e]) (.agg #[i_ D, i_ c1])) = some () := by kernel_rfl
theorem ZiY (x y : Operand) (a0 : Int) (e : Int) (D : Int) (c1 : Int) : Z2 Tryz.prog .neq 115 x y (.agg #[i_ a0, i_ e]) (.agg #[i_ D, i_ c1]) = some (.bool (!decide (a0 = D /\ e = c1))) := by
  unfold Z2
  rw [if_pos (show (plain (.agg #[i_ a0, i_ e]) && plain (.agg #[i_ D, i_ c1])) = true from rfl), ZD, Zko]
  have : pr Tryz.prog (binOp .neq 115 (.agg #[i_ a0, i_ e]) (.agg #[i_ D, i_ c1])) = some (.bool (!decide (a0 = D /\ e = c1))) := by
    simp only [binOp, Op.equal, ZD, Zjj]
    by_cases I : a0 = D <;> by_cases O : e = c1 <;> simp [ZaZ, I, O]
  simp only [Option.bind_some, this]
  rfl
theorem ZkS (x y : Operand) (a0 : Int) (e : Int) (D : Int) (c1 : Int) : pr Tryz.prog (eqGuard .eql 115 x y (.agg #[i_ a0, i_ e]) (.agg #[i_ D, i_ c1])) = some () := by kernel_rfl
theorem Znx (x y : Operand) (a0 : Int) (e : Int) (D : Int) (c1 : Int) : Z2 Tryz.prog .eql 115 x y (.agg #[i_ a0, i_ e]) (.agg #[i_ D, i_ c1]) = some (.bool (decide (a0 = D /\ e = c1))) := by
  unfold Z2
  rw [if_pos (show (plain (.agg #[i_ a0, i_ e]) && plain (.agg #[i_ D, i_ c1])) = true from rfl), ZD, ZkS]
  have : pr Tryz.prog (binOp .eql 115 (.agg #[i_ a0, i_ e]) (.agg #[i_ D, i_ c1])) = some (.bool (decide (a0 = D /\ e = c1))) := by
    simp only [binOp, Op.equal, ZD, Zjj]
    by_cases I : a0 = D <;> by_cases O : e = c1 <;> simp [ZaZ, I, O]
  simp only [Option.bind_some, this]
  rfl
theorem Zee : evB Tryz.prog 100000 17 #[] = some true := by kernel_rfl
theorem Ze7 {H : AH} : ACalls Tryz.prog 17 #[] H fun v H' => H = H' /\ v = .bool true :=
  (ZjR mixed Zee rfl H).mono fun _ _ ⟨a, b⟩ => ⟨b.symm, a⟩
theorem Zff {H : AH} {r : List (Int × Int × Int)}
    (V : WF H) (ac : ZbP = some r) :
    ACalls Tryz.prog 27 #[] H fun v H' => ∃ (ae : Value) (Z : Fp), v = .agg #[i_ 4, ae] /\ FrS [] H H' /\ Ow ZA 3 H' ae r Z /\ Inn [] H Z := by
 refine ab_ Tryz.func27 ?_
 unfold ZbP at ac
 refine sq_ fun ak => g_' ?_
 refine rk_ V [i_ 0, .slice none 0 0] fun ag aq U ai ad => ?_
 refine Za (ak _ _ (sq_ fun aj => g_' (q_ (.agg #[i_ 0, i_ 1, i_ 4]) (q_ (.agg #[i_ 1, i_ 2, i_ 1]) (q_ (.agg #[i_ 0, i_ 2, i_ 9]) (q_ (.agg #[i_ 2, i_ 3, i_ 2]) ?_))))))
 refine Zcz (enc := ZA) (sz := 3) U.wf [(0, 1, 4), (1, 2, 1), (0, 2, 9), (2, 3, 2)] 4 (by decide) (fun _ _ => rfl) (fun _ _ => rfl) rfl (by kernel_rfl) fun ar f15 ap O aa ab => ?_
 obtain ⟨e, I, D, rfl⟩ := ab.form
 refine q_ (.agg #[i_ 4, .slice e I D]) ?_
 have an := (ad.ext O)
 obtain ⟨af, al, Y, am⟩ := ra_ 24 0 O.wf an [i_ 4, .slice e I D] [i_ 4, .slice e I D]
 refine ek_ al (Za (aj _ _ ?_))
 refine Zf ?_
 refine Zcy (vs := [.agg #[i_ 4, .slice e I D]]) (Zda (Eq.trans (b := aL_ 24 (pt_ ag 0) af) (by kernel_rfl) (am.l_)) (rfl)) ?_
 have ah := (aa.djn ad.ltF)
 have ao := (ab.fr Y (Dj.symm ah))
 obtain rfl := oi_ ac
 exact ⟨(.slice e I D), f15, rfl, (fs_ V (((f0_ V).extR U).extR O) Y (ai.fresh (Nat.le_refl _))), ao, (aa.fresh U.n)⟩
theorem ZeL {H : AH} {x : Int} {e : Int} {r : Bool}
    (V : WF H) (I : Zcd x e = some r) :
    ACalls Tryz.prog 106 #[i_ x, i_ e] H fun v H' => v = .bool r /\ H = H' := by
 refine ab_ Tryz.func106 ?_
 unfold Zcd at I
 refine sq_ fun k1 => g_' (q_ (.bool false) (Za (k1 _ _ (sq_ fun k2 => g_' (q_ (i_ x) ?_)))))
 refine sb_ (x ≥ 0) (fun D => ?_) fun D => ?_
 ·have O := Zd D I
  refine q_ (.bool true) (q_ (i_ x) (q_ (i_ e) (q_ (.bool (decide (x < e))) (q_ (.bool (decide (x < e))) (q_ (.bool (decide (x < e))) (Za (k2 _ _ ?_)))))))
  refine Zf ?_
  refine br_ [.bool (decide (x < e))] ?_
  obtain rfl := oi_ O
  exact ⟨rfl, rfl⟩
 have U := Zj D I
 refine q_ (.bool false) (n_' (n_' (n_' (q_ (.bool false) (q_ (.bool false) (Za (k2 _ _ ?_)))))))
 refine Zf ?_
 refine br_ [.bool false] ?_
 obtain rfl := oi_ U
 exact ⟨rfl, rfl⟩
theorem Zi5 {H : AH} {U : Int} {V : Int} {e : Int} {Z : Int} {r : Er}
    (O : WF H) (ai : ZcW U V e Z = some r) :
    ACalls Tryz.prog 94 #[.agg #[i_ U, i_ V, i_ e], i_ Z] H fun v H' => ∃ (v3 : Value) (ag : Fp), v = v3 /\ FrS [] H H' /\ Ev 78 116 H' v3 r ag /\ Inn [] H ag := by
 refine ab_ Tryz.func94 ?_
 unfold ZcW at ai
 refine sq_ fun aC => g_' ?_
 refine rl_ O [i_ U, i_ V, i_ e] fun I aq D aL aa => ?_
 refine q_ (.nilIface) (Za (aC _ _ (sq_ fun aw => Zr (sq_ fun ax => ?_))))
 obtain ⟨al, ar, am⟩ := bs_ ai
 refine ZP (fun α af => Has α [(2, pt_ I 0), (5, .bool al)] /\ aq = af) (fun _ aj => ?_) (fun α af hM => ?_)
 ·refine g_' (q_ (pt_ I 0) (lr_ 3 0 (i_ U) aa (q_ (i_ Z) ?_)))
  obtain ⟨aK, au, an⟩ := bs_ ar
  refine ck_ (ZeL D.wf au) ?_
  rintro _ _ ⟨rfl, rfl⟩
  by_cases Y : aK = true
  ·have aD := Zd Y an
   rw [Y]
   refine q_ (.bool false) (q_ (.bool false) (q_ (pt_ I 1) (lr_ 3 1 (i_ V) aa (q_ (i_ Z) ?_))))
   obtain ⟨ae, av, aE⟩ := bs_ aD
   refine ck_ (ZeL D.wf av) ?_
   rintro _ _ ⟨rfl, rfl⟩
   refine q_ (.bool (!ae)) (q_ (.bool (!ae)) (q_ (.bool (!ae)) (Za ?_)))
   obtain rfl := oi_ aE
   exact aj _ _ ⟨ha_, rfl⟩
  have aF := Zj Y an
  rw [nb Y]
  refine q_ (.bool true) (q_ (.bool true) (n_' (n_' (n_' (n_' (n_' (q_ (.bool true) (q_ (.bool true) (Za ?_)))))))))
  obtain rfl := oi_ aF
  exact aj _ _ ⟨ha_, rfl⟩
 obtain ⟨ah, rfl⟩ := hM
 obtain ⟨β, rfl⟩ := Zo ah
 clear ah
 refine ax _ _ ?_
 refine wb_ (al) (fun ab => ?_) fun ab => ?_
 ·have aG := Zd ab am
  refine sq_ fun ay => g_' (q_ (.iface 78 (i_ 7)) (q_ (.iface 78 (i_ 7)) (Za (ay _ _ ?_))))
  refine Zf (Z6 (Zg ?_))
  refine br_ [.iface 78 (i_ 7)] ?_
  obtain rfl := oi_ aG
  exact ⟨(.iface 78 (i_ 7)), [], rfl, ((f0_ O).extR D), Ev.no, in_⟩
 have ao := ZQ ab am
 refine sq_ fun ak => g_' (q_ (pt_ I 2) (lr_ 3 2 (i_ e) aa ?_))
 refine sb_ (e < 0) (fun ac => ?_) fun ac => ?_
 ·have aH := Zd ac ao
  refine q_ (.bool true) (n_' (n_' (n_' (q_ (.bool true) (q_ (.bool true) (Za (ak _ _ ?_)))))))
  refine wb_ true (fun _ => ?_) fun h => by cases h
  refine sq_ fun az => g_' (q_ (.iface 78 (i_ 8)) (q_ (.iface 78 (i_ 8)) (Za (az _ _ ?_))))
  refine Zf (Z6 (Zg ?_))
  refine br_ [.iface 78 (i_ 8)] ?_
  obtain rfl := oi_ aH
  exact ⟨(.iface 78 (i_ 8)), [], rfl, ((f0_ O).extR D), Ev.no, in_⟩
 have ap := Zj ac ao
 refine q_ (.bool false) (q_ (pt_ I 2) (lr_ 3 2 (i_ e) aa (q_ (.bool (decide (e > 2147483647))) (q_ (.bool (decide (e > 2147483647))) (q_ (.bool (decide (e > 2147483647))) (Za (ak _ _ ?_)))))))
 refine wc_ (e > 2147483647) (fun ad => ?_) fun ad => ?_
 ·have aI := Zd ad ap
  refine sq_ fun aA => g_' (q_ (.iface 78 (i_ 8)) (q_ (.iface 78 (i_ 8)) (Za (aA _ _ ?_))))
  refine Zf (Z6 (Zg ?_))
  refine br_ [.iface 78 (i_ 8)] ?_
  obtain rfl := oi_ aI
  exact ⟨(.iface 78 (i_ 8)), [], rfl, ((f0_ O).extR D), Ev.no, in_⟩
 have aJ := Zj ad ap
 refine Zi (aw _ _ (sq_ fun aB => g_' (q_ (.nilIface) (Za (aB _ _ ?_)))))
 refine Zf ?_
 refine br_ [.nilIface] ?_
 obtain rfl := oi_ aJ
 exact ⟨(.nilIface), [], rfl, ((f0_ O).extR D), Ev.nil, in_⟩
theorem ZgZ {H : AH} {U : Value} {ad : Fp} {e : Int} {at_ : Int} {ab : Er} {r : Er}
    (Z : WF H) (ae : Ev 78 116 H U ab ad) (Y : Zck e at_ ab = some r) :
    ACalls Tryz.prog 43 #[i_ e, i_ at_, U] H fun v H' => ∃ (v3 : Value) (ac : Fp), v = v3 /\ FrS [] H H' /\ Ev 78 116 H' v3 r ac /\ Inn ad H ac := by
 refine ab_ Tryz.func43 ?_
 unfold Zck at Y
 refine sq_ fun am => g_' (q_ (.nilIface) (Za (am _ _ (sq_ fun an => sq_ fun af => g_' (q_ (U) ?_)))))
 rcases (ae).cases with ⟨V, rfl⟩ | ⟨V, I, O, rfl⟩
 ·have ao := Zd V Y
  refine q_ (.bool true) (Za (af _ _ ?_))
  refine wb_ true (fun _ => ?_) fun h => by cases h
  refine sq_ fun ak => g_' (q_ (.nilIface) (Za (ak _ _ ?_)))
  refine Zf (Zg ?_)
  refine br_ [.nilIface] ?_
  obtain rfl := oi_ ao
  exact ⟨(.nilIface), [], rfl, (f0_ Z), Ev.nil, in_⟩
 have ap := Zj V Y
 refine l_' (.bool false) (Z2 Tryz.prog .eql 38 (.tmp 7) (.const .nilIface) (.iface I O) .nilIface) (ZeY (by kernel_rfl)) (Za (af _ _ ?_))
 refine wb_ false (fun h => by cases h) fun _ => ?_
 refine Zi (an _ _ (sq_ fun al => g_' (q_ (i_ e) (q_ (i_ at_) (q_ (.agg #[i_ e, i_ at_]) (q_ (.iface I O) (q_ (.agg #[i_ e, i_ at_, .iface I O]) ?_)))))))
 refine rl_ Z [i_ e, i_ at_, .iface I O] fun D au aa ah aq => ?_
 have ar := (ae.ext aa)
 obtain ⟨ag, ai, aj⟩ := Ev.at aq ar ah
 refine q_ (.iface 116 (pt_ D 0)) (q_ (.iface 116 (pt_ D 0)) (Za (al _ _ ?_)))
 refine Zf ?_
 refine br_ [.iface 116 (pt_ D 0)] ?_
 obtain rfl := oi_ ap
 exact ⟨(.iface 116 (pt_ D 0)), ag, rfl, ((f0_ Z).extR aa), ai, (Inn.trans ir_ (Nat.le_refl _) aj)⟩
theorem ZhQ {H : AH} {aa : Value} {aU : Fp} {O : Int} {Arcs : List (Int × Int × Int)} {r : Er}
    (U : WF H) (ak : Sq ZA 3 H aa Arcs aU) (az : Zcp O Arcs = some r) :
    ACalls Tryz.prog 79 #[.agg #[i_ O, aa]] H fun v H' => ∃ (v3 : Value) (au : Fp), v = v3 /\ FrS [] H H' /\ Ev 78 116 H' v3 r au /\ Inn [] H au := by
 refine ab_ Tryz.func79 ?_
 unfold Zcp at az
 refine sq_ fun bk => g_' ?_
 refine Zf5 U [i_ O, aa] (Zbd (rfl) (Zbd (ak.one1) (ZdX))) (by kernel_rfl) fun V af D bU ab => ?_
 refine q_ (.nilIface) (Za (bk _ _ (sq_ fun ba => sq_ fun bb => ?_)))
 obtain ⟨aF, aB, aH⟩ := bs_ az
 refine ZP (fun α ap => Has α [(1, pt_ V 0), (19, .bool aF)] /\ af = ap) (fun _ an => ?_) (fun α ap hM => ?_)
 ·refine g_' (q_ (pt_ V 0) (lr_ 3 0 (i_ O) ab ?_))
  refine sb_ (O < 0) (fun ag => ?_) fun ag => ?_
  ·have bw := Zd ag aB
   refine q_ (.bool true) (n_' (n_' (n_' (q_ (.bool true) (q_ (.bool true) (n_' (n_' (n_' (n_' (q_ (.bool true) (Za ?_)))))))))))
   obtain rfl := oi_ bw
   exact an _ _ ⟨ha_, rfl⟩
  have aI := Zj ag aB
  refine q_ (.bool false) (q_ (pt_ V 0) (lr_ 3 0 (i_ O) ab ?_))
  refine sb_ (O > 65536) (fun ah => ?_) fun ah => ?_
  ·have bx := Zd ah aI
   refine q_ (.bool true) (q_ (.bool true) (n_' (n_' (n_' (n_' (q_ (.bool true) (Za ?_)))))))
   obtain rfl := oi_ bx
   exact an _ _ ⟨ha_, rfl⟩
  have bz := Zj ah aI
  refine q_ (.bool false) (q_ (.bool false) (q_ (pt_ V 1) (lr_ 22 1 (aa) ab ?_)))
  have bK := (ak.ext D)
  refine bK.ln_ 22 (q_ (.bool (decide ((Arcs.length : Int) > 262144))) (q_ (.bool (decide ((Arcs.length : Int) > 262144))) (Za ?_)))
  obtain rfl := oi_ bz
  exact an _ _ ⟨ha_, rfl⟩
 obtain ⟨aw, rfl⟩ := hM
 obtain ⟨β, rfl⟩ := Zo aw
 clear aw
 refine bb _ _ ?_
 refine wb_ (aF) (fun ai => ?_) fun ai => ?_
 ·have bA := Zd ai aH
  refine sq_ fun bc => g_' (q_ (.iface 78 (i_ 9)) (q_ (.iface 78 (i_ 9)) (Za (bc _ _ ?_))))
  refine Zf (Zg ?_)
  refine br_ [.iface 78 (i_ 9)] ?_
  obtain rfl := oi_ bA
  exact ⟨(.iface 78 (i_ 9)), [], rfl, ((f0_ U).extR D), Ev.no, in_⟩
 have bB := ZQ ai aH
 refine Zi (ba _ _ (sq_ fun bd => sq_ fun be => g_' (q_ (pt_ V 1) (lr_ 22 1 (aa) ab ?_))))
 have aM := (ak.ext D)
 refine aM.ln_ 22 (q_ (i_ 0) (Za (be _ _ ?_)))
 obtain ⟨z39, aZ, aJ⟩ := bs_ bB
 refine ZP (fun α aq => ∃ aG, z39 = Sum.inr aG /\ Has α [] /\ FrS [] af aq) (fun _ bf => ?_) (fun α aq hM => ?_)
 ·refine Zr ?_
  obtain ⟨aE, aX⟩ := ZC.1 aZ
  refine Z9 (fun n α ar => ∃ (e : Int), ZT (fun zz_ => ZbK O Arcs zz_) n e = some z39 /\ Has α [(1, pt_ V 0), (22, aa), (23, i_ (Arcs.length : Int)), (24, i_ e)] /\ FrS [] af ar) aE ⟨0, aX, ha_, (fr_ D.wf)⟩ ?_
  rintro aE α ar ⟨e, aW, ay, I⟩ bR bg
  obtain ⟨bs, bM, rfl, ad, am⟩ := ZJ aW
  obtain ⟨β, rfl⟩ := Zo ay
  clear ay
  replace ad : ZbK O Arcs e = some bM := ad
  unfold ZbK at ad
  refine sq_ fun bh => g_' (q_ (.bool (decide (e < (Arcs.length : Int)))) (Za (bh _ _ (sq_ fun bi => ?_))))
  refine wc_ (e < (Arcs.length : Int)) (fun ac => ?_) fun ac => ?_
  ·have bC := Zd ac ad
   refine Zi (bi _ _ (sq_ fun bj => Zr (sq_ fun bl => g_' (q_ (i_ e) ?_))))
   obtain ⟨av, bD⟩ := Zc bC
   have aN := (aM.fr I dn_)
   refine aN.ix_ 22 av ac (le_ 74 0 (.agg #[i_ ((gt Arcs e).1), i_ ((gt Arcs e).2.1), i_ ((gt Arcs e).2.2)]) aN av ac ?_)
   refine rk_ I.wf [i_ 0, i_ 0, i_ 0] fun bS bO Y al bE => ?_
   refine q_ (i_ e) ?_
   obtain ⟨bP, bt, Z, bF⟩ := ra_ 74 0 Y.wf bE [i_ ((gt Arcs e).1), i_ ((gt Arcs e).2.1), i_ ((gt Arcs e).2.2)] [i_ ((gt Arcs e).1), i_ ((gt Arcs e).2.1), i_ ((gt Arcs e).2.2)]
   refine ek_ bt (Za (bl _ _ (sq_ fun bm => g_' (lr_ 74 0 (.agg #[i_ ((gt Arcs e).1), i_ ((gt Arcs e).2.1), i_ ((gt Arcs e).2.2)]) bF (q_ (pt_ V 0) ?_)))))
   have aQ := (al.djn (ab.ltF.le I.n))
   have bL := (((ab.frS I dn_).ext Y).frS Z aQ)
   refine lr_ 3 0 (i_ O) bL ?_
   obtain ⟨bW, a1, aK⟩ := bs_ bD
   refine ck_ (Zi5 Z.wf a1) ?_
   rintro aO bQ ⟨_, bT, rfl, ae, aD, a8⟩
   refine q_ (aO) (Za (bm _ _ (sq_ fun aC => g_' (q_ (aO) ?_))))
   rcases (aD).cases with ⟨aj, rfl⟩ | ⟨aj, aL, aP, rfl⟩
   ·have bG := Zd aj aK
    refine q_ (.bool false) (Za (aC _ _ ?_))
    refine wb_ false (fun h => by cases h) fun _ => ?_
    refine Zi (bj _ _ (g_' ?_))
    obtain ⟨aV, bH⟩ := Zc bG
    refine w_' ((e + 1)) (Zs (by have := aV; omega)) (q_ (i_ (e + 1)) (Za ?_))
    obtain rfl := oi_ bH
    exact bg bs _ _ lt_ ⟨(e + 1), am, ha_, (fs_ D.wf (fs_ D.wf ((fs_ D.wf (fr_ D.wf) I in_).extR Y) Z (al.fresh I.n)) ae in_)⟩
   have bI := Zj aj aK
   refine l_' (.bool true) (Z2 Tryz.prog .neq 38 (.tmp 33) (.const .nilIface) (.iface aL aP) .nilIface) (Z4 (by kernel_rfl)) (Za (aC _ _ ?_))
   refine wb_ true (fun _ => ?_) fun h => by cases h
   refine sq_ fun bn => g_' (q_ (i_ e) (q_ (.iface aL aP) ?_))
   obtain ⟨bX, a2, bJ⟩ := bs_ bI
   refine ck_ (ZgZ ae.wf aD a2) ?_
   rintro ao bN ⟨_, aT, rfl, aR, bo, a7⟩
   refine q_ (ao) (Za (bn _ _ ?_))
   refine Zf (Z6 (Zg (Zg (Z6 (Zg (Zg ?_))))))
   obtain ⟨bV, aA, a6⟩ := map_some bJ
   subst a6
   obtain rfl := ZL am
   have aY := elim_inl aJ
   rw [aY] at aA
   refine br_ [ao] ?_
   have bp := (t_ D.n I.n)
   have bq := (t_ (t_ (t_ D.n I.n) Y.n) Z.n)
   have br := (t_ (t_ (t_ (t_ D.n I.n) Y.n) Z.n) ae.n)
   obtain rfl := oi_ aA
   exact ⟨(ao), aT, rfl, (fs_ U (fs_ U (fs_ U ((fs_ U ((f0_ U).extR D) I in_).extR Y) Z (al.fresh bp)) ae in_) aR in_), bo, (Inn.trans (a8.fresh bq) br a7)⟩
  have bu := Zj ac ad
  refine Zaf (Zq (Zq (Zau ?_)))
  obtain rfl := oi_ bu
  obtain rfl := ZL am
  exact bf _ _ ⟨_, rfl, trivial, (fs_ D.wf (fr_ D.wf) I in_)⟩
 obtain ⟨aG, rfl, ax, aS⟩ := hM
 have bv := elim_inr aJ
 obtain ⟨β, rfl⟩ := Zo ax
 clear ax
 refine bd _ _ (sq_ fun a_ => g_' (q_ (.nilIface) (Za (a_ _ _ ?_))))
 refine Zf ?_
 refine br_ [.nilIface] ?_
 obtain rfl := oi_ bv
 exact ⟨(.nilIface), [], rfl, (fs_ U ((f0_ U).extR D) aS in_), Ev.nil, in_⟩
theorem Zgd {H : AH} {x : Int} {r : Bool}
    (D : WF H) (e : ZcX x = some r) :
    ACalls Tryz.prog 117 #[i_ x] H fun v H' => v = .bool r /\ H = H' := by
 refine ab_ Tryz.func117 ?_
 unfold ZcX at e
 refine sq_ fun k1 => g_' (q_ (.bool false) (Za (k1 _ _ (sq_ fun k2 => g_' (q_ (i_ x) (q_ (i_ x) (q_ (.bool (!decide (x = x))) (q_ (.bool (!decide (x = x))) (Za (k2 _ _ ?_))))))))))
 refine Zf ?_
 refine br_ [.bool (!decide (x = x))] ?_
 obtain rfl := oi_ e
 exact ⟨rfl, rfl⟩
theorem ZdK {H : AH} {x : Int} {y : Int} {r : Int}
    (af : WF H) (Z : Zbs x y = some r) :
    ACalls Tryz.prog 98 #[i_ x, i_ y] H fun v H' => v = i_ r /\ H = H' := by
 refine ab_ Tryz.func98 ?_
 unfold Zbs at Z
 refine sq_ fun k1 => g_' (q_ (i_ 0) (Za (k1 _ _ (sq_ fun k2 => g_' (q_ (i_ x) ?_)))))
 obtain ⟨Y, ah, aH⟩ := bs_ Z
 refine ck_ (Zgd af ah) ?_
 rintro _ _ ⟨rfl, rfl⟩
 refine q_ (.bool Y) (Za (k2 _ _ (sq_ fun aA => g_' (q_ (i_ y) ?_))))
 obtain ⟨e, ag, aa⟩ := bs_ aH
 refine ck_ (Zgd af ag) ?_
 rintro _ _ ⟨rfl, rfl⟩
 refine q_ (.bool e) (Za (aA _ _ (sq_ fun ai => sq_ fun aj => g_' (q_ (.bool Y) (Za (aj _ _ ?_))))))
 refine wb_ (Y) (fun D => ?_) fun D => ?_
 ·have ab := Zd D aa
  refine sq_ fun ak => sq_ fun al => g_' (q_ (.bool e) (Za (al _ _ ?_)))
  refine wb_ (e) (fun I => ?_) fun I => ?_
  ·have aB := Zd I ab
   refine sq_ fun am => g_' (q_ (i_ 0) (Za (am _ _ ?_)))
   refine Zf (Zg (Zg ?_))
   refine br_ [i_ 0] ?_
   obtain rfl := oi_ aB
   exact ⟨rfl, rfl⟩
  have aC := ZQ I ab
  refine Zi (ak _ _ (sq_ fun an => g_' (q_ (i_ (-1)) (Za (an _ _ ?_)))))
  refine Zf (Zg ?_)
  refine br_ [i_ (-1)] ?_
  obtain rfl := oi_ aC
  exact ⟨rfl, rfl⟩
 have ac := ZQ D aa
 refine Zi (ai _ _ (sq_ fun ao => sq_ fun ap => g_' (q_ (.bool e) (Za (ap _ _ ?_)))))
 refine wb_ (e) (fun O => ?_) fun O => ?_
 ·have aD := Zd O ac
  refine sq_ fun aq => g_' (q_ (i_ 1) (Za (aq _ _ ?_)))
  refine Zf (Zg ?_)
  refine br_ [i_ 1] ?_
  obtain rfl := oi_ aD
  exact ⟨rfl, rfl⟩
 have ad := ZQ O ac
 refine Zi (ao _ _ (sq_ fun ar => sq_ fun au => g_' (q_ (i_ x) (q_ (i_ y) (q_ (.bool (decide (x < y))) (Za (au _ _ ?_)))))))
 refine wc_ (x < y) (fun U => ?_) fun U => ?_
 ·have aE := Zd U ad
  refine sq_ fun av => g_' (q_ (i_ (-1)) (Za (av _ _ ?_)))
  refine Zf (Zg ?_)
  refine br_ [i_ (-1)] ?_
  obtain rfl := oi_ aE
  exact ⟨rfl, rfl⟩
 have ae := Zj U ad
 refine Zi (ar _ _ (sq_ fun aw => sq_ fun ax => g_' (q_ (i_ x) (q_ (i_ y) (q_ (.bool (decide (x > y))) (Za (ax _ _ ?_)))))))
 refine wc_ (x > y) (fun V => ?_) fun V => ?_
 ·have aF := Zd V ae
  refine sq_ fun ay => g_' (q_ (i_ 1) (Za (ay _ _ ?_)))
  refine Zf (Zg ?_)
  refine br_ [i_ 1] ?_
  obtain rfl := oi_ aF
  exact ⟨rfl, rfl⟩
 have aG := Zj V ae
 refine Zi (aw _ _ (sq_ fun az => g_' (q_ (i_ 0) (Za (az _ _ ?_)))))
 refine Zf ?_
 refine br_ [i_ 0] ?_
 obtain rfl := oi_ aG
 exact ⟨rfl, rfl⟩
theorem Zlr {H : AH} {U : Value} {am : Fp} {D : List (Int)} {r : Int}
    (aP : WF H) (Y : Sq (Zeb .i64) 1 H U D am) (af : Zec D = some r) :
    ACalls Tryz.prog 97 #[U] H fun v H' => v = i_ r /\ H = H' := by
 refine ab_ Tryz.func97 ?_
 unfold Zec at af
 refine sq_ fun k1 => g_' (q_ (i_ 0) (Za (k1 _ _ (sq_ fun k2 => g_' (q_ (i_ 0) (Za (k2 _ _ (sq_ fun k3 => sq_ fun aD => g_' (q_ (U) (Y.ln_ 26 (q_ (i_ 0) (Za (aD _ _ ?_)))))))))))))
 obtain ⟨al, ar, ak⟩ := bs_ af
 refine ZP (fun α ab => ∃ ai, al = Sum.inr ai /\ Has α [(3, i_ 0)] /\ H = ab) (fun _ av => ?_) (fun α ab hM => ?_)
 ·refine Zr ?_
  obtain ⟨ah, ap⟩ := ZC.1 ar
  refine Z9 (fun n α aa => ∃ (e : Int), ZT (fun zz_ => ZbF D zz_) n e = some al /\ Has α [(3, i_ 0), (6, U), (7, i_ (D.length : Int)), (8, i_ e)] /\ H = aa) ah ⟨0, ap, ha_, rfl⟩ ?_
  rintro ah α aa ⟨e, ao, ae, rfl⟩ aN aw
  obtain ⟨aF, aM, rfl, O, Z⟩ := ZJ ao
  obtain ⟨β, rfl⟩ := Zo ae
  clear ae
  replace O : ZbF D e = some aM := O
  unfold ZbF at O
  refine sq_ fun ax => g_' (q_ (.bool (decide (e < (D.length : Int)))) (Za (ax _ _ (sq_ fun ay => ?_))))
  refine wc_ (e < (D.length : Int)) (fun I => ?_) fun I => ?_
  ·have aG := Zd I O
   refine Zi (ay _ _ (sq_ fun az => Zr (sq_ fun aA => g_' ?_)))
   obtain ⟨ac, aj⟩ := Zc aG
   refine Y.ix_ 26 ac I (le_ 3 0 (i_ (gt D e)) Y ac I (q_ (i_ (gt D e)) (Za (aA _ _ (sq_ fun aB => g_' (q_ (i_ (gt D e)) (q_ (i_ 0) (q_ (.bool (!decide ((gt D e) = 0))) (Za (aB _ _ ?_))))))))))
   refine Zdx ((gt D e) = 0) (by kernel_rfl) rfl (fun V => ?_) (fun V => ?_)
   ·have aH := Zj V aj
    refine sq_ fun aC => g_' (q_ (i_ (gt D e)) (q_ (i_ (gt D e)) (Za (aC _ _ ?_))))
    refine Zf (Z6 (Zg (Zg (Z6 (Zg (Zg ?_))))))
    obtain ⟨aO, ag, au⟩ := map_some aH
    subst au
    obtain rfl := ZL Z
    have aq := elim_inl ak
    rw [aq] at ag
    refine br_ [i_ (gt D e)] ?_
    obtain rfl := oi_ ag
    exact ⟨rfl, rfl⟩
   have aI := Zd V aj
   refine Zi (az _ _ (g_' ?_))
   obtain ⟨an, aJ⟩ := Zc aI
   refine w_' ((e + 1)) (Zs (by have := an; omega)) (q_ (i_ (e + 1)) (Za ?_))
   obtain rfl := oi_ aJ
   exact aw aF _ _ lt_ ⟨(e + 1), Z, ha_, rfl⟩
  have aK := Zj I O
  refine Zaf (Zq (Zq (Zau ?_)))
  obtain rfl := oi_ aK
  obtain rfl := ZL Z
  exact av _ _ ⟨_, rfl, ha_, rfl⟩
 obtain ⟨ai, rfl, ad, rfl⟩ := hM
 have aL := elim_inr ak
 obtain ⟨β, rfl⟩ := Zo ad
 clear ad
 refine k3 _ _ (sq_ fun aE => g_' (q_ (i_ 0) (q_ (i_ 0) (Za (aE _ _ ?_)))))
 refine Zf ?_
 refine br_ [i_ 0] ?_
 obtain rfl := oi_ aL
 exact ⟨rfl, rfl⟩
theorem Zhd {H : AH} {V : Int} {Z : Int} {ab : Int} {Y : Int} {aa : Int} {ac : Int} {r : Int}
    (ah : WF H) (ag : Zbh V Z ab Y aa ac = some r) :
    ACalls Tryz.prog 81 #[.agg #[i_ V, i_ Z, i_ ab], .agg #[i_ Y, i_ aa, i_ ac]] H fun v H' => v = i_ r /\ FrS [] H H' := by
 refine ab_ Tryz.func81 ?_
 unfold Zbh at ag
 refine sq_ fun k1 => g_' ?_
 refine rl_ ah [i_ V, i_ Z, i_ ab] fun b2 ay ae aE au => ?_
 refine rl_ ae.wf [i_ Y, i_ aa, i_ ac] fun D e I aD O => ?_
 refine q_ (i_ 0) (Za (k1 _ _ (sq_ fun an => ?_)))
 refine Z0 [0, 1, 2, 3, 5, 6, 7, 8, 10, 11, 12, 13, 4, 9, 14, 15, 16, 17] (by kernel_rfl) ?_
 refine e_' (pt_ b2 0) ?_
 have U := (au.ext I)
 refine mr_ 3 0 (i_ V) U (e_' (pt_ D 0) (mr_ 3 0 (i_ Y) O (e_' (pt_ b2 1) ?_)))
 refine ZcU (i_ Z) (x := aL_ 3 (pt_ b2 1) e) (by kernel_rfl) (U.l_) ?_
 refine e_' (pt_ D 1) ?_
 refine ZcU (i_ aa) (x := aL_ 3 (pt_ D 1) e) (by kernel_rfl) (O.l_) ?_
 refine e_' (pt_ b2 2) ?_
 refine ZcU (i_ ab) (x := aL_ 3 (pt_ b2 2) e) (by kernel_rfl) (U.l_) ?_
 refine e_' (pt_ D 2) ?_
 refine ZcU (i_ ac) (x := aL_ 3 (pt_ D 2) e) (by kernel_rfl) (O.l_) ?_
 obtain ⟨av, aj, ao⟩ := bs_ ag
 refine dk_ (ZdK I.wf aj) ?_
 rintro _ _ ⟨rfl, rfl⟩
 refine ⟨ZbS (y := aL_ 3 (pt_ D 2) e) (by kernel_rfl) (O.l_) (ZbS (y := aL_ 3 (pt_ b2 2) e) (by kernel_rfl) (U.l_) (ZbS (y := aL_ 3 (pt_ D 1) e) (by kernel_rfl) (O.l_) (ZbS (y := aL_ 3 (pt_ b2 1) e) (by kernel_rfl) (U.l_) (ZN)))), ?_⟩
 obtain ⟨aw, ak, ap⟩ := bs_ ao
 refine dk_ (ZdK I.wf ak) ?_
 rintro _ _ ⟨rfl, rfl⟩
 refine ⟨ZbS (y := aL_ 3 (pt_ D 2) e) (by kernel_rfl) (O.l_) (ZbS (y := aL_ 3 (pt_ b2 2) e) (by kernel_rfl) (U.l_) (ZaE (by kernel_rfl) (ZaE (by kernel_rfl) (ZN)))), ?_⟩
 obtain ⟨ax, al, aq⟩ := bs_ ap
 refine dk_ (ZdK I.wf al) ?_
 rintro _ _ ⟨rfl, rfl⟩
 refine ⟨ZaE (by kernel_rfl) (ZaE (by kernel_rfl) (ZaE (by kernel_rfl) (ZaE (by kernel_rfl) (ZN)))), ?_⟩
 refine Zh1 (enc := (Zeb .i64)) (sz := 1) I.wf [av, aw, ax] 3 (by decide) (fun _ _ => rfl) (fun _ _ => rfl) rfl (by kernel_rfl) fun aH aC az ad aF af => ?_
 obtain ⟨aA, aG, aB, rfl⟩ := af.form
 obtain ⟨ai, am, ar⟩ := bs_ aq
 refine dk_ (Zlr ad.wf af.sq am) ?_
 rintro _ _ ⟨rfl, rfl⟩
 refine ⟨ZaE (by kernel_rfl) (ZaE (by kernel_rfl) (ZaE (by kernel_rfl) (ZaE (by kernel_rfl) (ZN)))), ?_⟩
 refine e_' (i_ ai) ?_
 refine ZO ?_
 refine an _ _ ?_
 refine Zf ?_
 refine br_ [i_ ai] ?_
 obtain rfl := oi_ ar
 exact ⟨rfl, ((((f0_ ah).extR ae).extR I).extR ad)⟩
theorem Zfa {H : AH} {I : Int} {e : Int} {U : Int} {O : Int} {D : Int} {V : Int} {r : Bool}
    (ac : WF H) (ab : ZbV I e U O D V = some r) :
    ACalls Tryz.prog 83 #[.agg #[i_ I, i_ e, i_ U], .agg #[i_ O, i_ D, i_ V]] H fun v H' => v = .bool r /\ FrS [] H H' := by
 refine ab_ Tryz.func83 ?_
 unfold ZbV at ab
 refine sq_ fun k1 => g_' ?_
 refine rl_ ac [i_ I, i_ e, i_ U] fun b2 ak Z an aj => ?_
 refine rl_ Z.wf [i_ O, i_ D, i_ V] fun ad al Y am af => ?_
 refine q_ (.bool false) (Za (k1 _ _ (sq_ fun ae => g_' (q_ (pt_ b2 0) ?_))))
 have ag := (aj.ext Y)
 refine lr_ 3 0 (i_ I) ag (q_ (pt_ ad 0) (lr_ 3 0 (i_ O) af ?_))
 refine sb_ (I = O) (fun aa => ?_) fun aa => ?_
 ·have ah := Zd aa ab
  refine q_ (.bool true) (q_ (pt_ b2 1) (lr_ 3 1 (i_ e) ag (q_ (pt_ ad 1) (lr_ 3 1 (i_ D) af (q_ (.bool (decide (e = D))) (q_ (.bool (decide (e = D))) (q_ (.bool (decide (e = D))) (Za (ae _ _ ?_)))))))))
  refine Zf ?_
  refine br_ [.bool (decide (e = D))] ?_
  obtain rfl := oi_ ah
  exact ⟨rfl, (((f0_ ac).extR Z).extR Y)⟩
 have ai := Zj aa ab
 refine q_ (.bool false) (n_' (n_' (n_' (n_' (n_' (q_ (.bool false) (q_ (.bool false) (Za (ae _ _ ?_)))))))))
 refine Zf ?_
 refine br_ [.bool false] ?_
 obtain rfl := oi_ ai
 exact ⟨rfl, (((f0_ ac).extR Z).extR Y)⟩
theorem Ze0 {H : AH} {I : Value} {Y : Fp} {s : List (Int × Int × Int)} {r : List (Int × Int × Int) × List (Int × Int × Int)}
    (O : WF H) (ai : Ow ZA 3 H I s Y) (aD : Za1 s = some r) :
    ACalls Tryz.prog 82 #[I, .func (.func 83) #[] #[]] H fun v H' => ∃ (bc : Value), v = bc /\ FrS Y H H' /\ Ow ZA 3 H' bc r.1 Y /\ Ow ZA 3 H' I r.2 Y := by
 refine ab_ Tryz.func82 ?_
 unfold Za1 at aD
 refine sq_ fun bU => g_' (q_ (.slice none 0 0) (Za (bU _ _ (sq_ fun bX => sq_ fun bZ => g_' (q_ (I) (ai.sq.ln_ 22 (q_ (.bool (decide ((s.length : Int) < 2))) (Za (bZ _ _ ?_)))))))))
 refine wc_ ((s.length : Int) < 2) (fun aA => ?_) fun aA => ?_
 ·have cf := Zd aA aD
  refine sq_ fun bG => g_' (q_ (I) (q_ (I) (Za (bG _ _ ?_))))
  refine Zf (Zg ?_)
  refine br_ [I] ?_
  obtain rfl := oi_ cf
  exact ⟨(I), rfl, (fr_ O), ai, ai⟩
 have ck := Zj aA aD
 refine Zi (bX _ _ (sq_ fun bI => sq_ fun bK => g_' (q_ (i_ 1) (Za (bK _ _ ?_)))))
 obtain ⟨bh, bB, ba⟩ := bs_ ck
 refine ZP (fun α aF => ∃ a8, bh = Sum.inr a8 /\ Has α [(0, I)] /\ FrS [] H aF) (fun _ bN => ?_) (fun α aF hM => ?_)
 ·refine Zr ?_
  obtain ⟨a2, bw⟩ := ZC.1 bB
  refine Z9 (fun n α aG => ∃ (k3 : Int), ZT (fun zz_ => Zay s zz_) n k3 = some bh /\ Has α [(0, I), (1, .func (.func 83) #[] #[]), (5, i_ k3)] /\ FrS [] H aG) a2 ⟨1, bw, ha_, (f0_ O)⟩ ?_
  rintro a2 α aG ⟨k3, bt, aP, ag⟩ cQ bO
  obtain ⟨b9, cL, rfl, aj, aB⟩ := ZJ bt
  obtain ⟨β, rfl⟩ := Zo aP
  clear aP
  replace aj : Zay s k3 = some cL := aj
  unfold Zay at aj
  refine sq_ fun bP => sq_ fun bQ => g_' (q_ (i_ k3) (q_ (I) ?_))
  have ae := (ai.fr ag dn_)
  refine ae.sq.ln_ 22 (q_ (.bool (decide (k3 < (s.length : Int)))) (Za (bQ _ _ ?_)))
  refine wc_ (k3 < (s.length : Int)) (fun ah => ?_) fun ah => ?_
  ·have cB := Zd ah aj
   refine Zi (bP _ _ (sq_ fun bR => Zr (sq_ fun bS => ?_)))
   refine Z0 [0, 1, 2, 3, 4, 5, 6, 7, 8, 9, 10] (by kernel_rfl) ?_
   refine e_' (.func (.func 83) #[] #[]) (e_' (I) (e_' (i_ k3) ?_))
   obtain ⟨aM, cC⟩ := Zc cB
   refine ae.sq.mx_ 22 aM ah (me_ 74 0 (.agg #[i_ ((gt s k3).1), i_ ((gt s k3).2.1), i_ ((gt s k3).2.2)]) ae.sq aM ah (e_' (I) (e_' (i_ k3) ?_)))
   obtain ⟨bs, cD⟩ := Zc cC
   refine d_w ((k3 - 1)) (k := .i64) (x := (k3 - 1)) (by kernel_rfl) (Zs bs) ?_
   obtain ⟨au, cE⟩ := Zc cD
   refine ae.sq.mx_ 22 au.1 au.2 (me_ 74 0 (.agg #[i_ ((gt s (k3 - 1)).1), i_ ((gt s (k3 - 1)).2.1), i_ ((gt s (k3 - 1)).2.2)]) ae.sq au.1 au.2 ?_)
   obtain ⟨cK, bE, bb⟩ := bs_ cE
   refine dk_ (Zfa ag.wf bE) ?_
   rintro _ aH ⟨rfl, U⟩
   refine ⟨ZN, ?_⟩
   refine ZO ?_
   refine bS _ _ ?_
   refine wb_ (cK) (fun az => ?_) fun az => ?_
   ·have cF := Zd az bb
    refine sq_ fun bT => g_' (q_ (I) (q_ (i_ k3) ?_))
    obtain ⟨aN, cG⟩ := Zc cF
    have be := (ae.fr U dn_)
    obtain ⟨cY, ce, al⟩ := Ow.view (P := Tryz.prog) be (t := 22) (by kernel_rfl) (lo := some (i_ k3)) (l := k3.toNat) (ZdV _ (by have := aN; omega)) (by have := aN; omega)
    obtain ⟨Z, ac, aa, rfl⟩ := al.form
    refine ZbC (.slice Z ac aa) (by kernel_rfl) ce ?_
    refine q_ (.slice Z ac aa) (Za (bT _ _ (sq_ fun bV => sq_ fun bW => g_' (q_ (i_ 1) (Za (bW _ _ ?_))))))
    obtain ⟨V, bC, cH⟩ := bs_ cG
    refine ZP (fun α aw => Has α [(0, I), (5, i_ V.2)] /\ FrS Y aH aw /\ Ow ZA 3 aw I V.1 Y) (fun _ bY => ?_) (fun α aw hM => ?_)
    ·refine Zr ?_
     obtain ⟨a6, bx⟩ := ZC.1 bC
     refine Z9 (fun n α ax => ∃ (D : List (Int × Int × Int)), ∃ (k1 : Int), ∃ (e : Int), ZT (fun zz_ => Zaw k3 zz_.1 zz_.2.1 zz_.2.2) n (D, k1, e) = some V /\ Has α [(0, I), (1, .func (.func 83) #[] #[]), (5, i_ k1), (6, .slice Z ac aa), (7, i_ e)] /\ FrS Y aH ax /\ Ow ZA 3 ax I D Y) a6 ⟨s, k3, 1, bx, ha_, (fr_ U.wf), be⟩ ?_
     rintro a6 α ax ⟨D, k1, e, bu, aR, ao, ad⟩ cR aY
     obtain ⟨a7, cM, rfl, ak, aC⟩ := ZJ bu
     obtain ⟨β, rfl⟩ := Zo aR
     clear aR
     replace ak : Zaw k3 D k1 e = some cM := ak
     unfold Zaw at ak
     refine sq_ fun b5 => sq_ fun b6 => g_' (q_ (i_ e) (q_ (.slice Z ac aa) ?_))
     obtain ⟨bA, cU⟩ := al.sq ad
     refine bA.ln_ 22 (q_ (.bool (decide (e < ((D.drop k3.toNat).length : Int)))) (Za (b6 _ _ ?_)))
     refine wc_ (e < ((D.drop k3.toNat).length : Int)) (fun ab => ?_) fun ab => ?_
     ·have cI := Zd ab ak
      refine Zi (b5 _ _ (sq_ fun aZ => Zr (sq_ fun b7 => ?_)))
      refine Z0 [0, 1, 2, 3, 4, 5, 6, 7, 8, 9, 10, 11] (by kernel_rfl) ?_
      refine e_' (.func (.func 83) #[] #[]) (e_' (.slice Z ac aa) (e_' (i_ e) ?_))
      obtain ⟨aW, cV⟩ := al.sq ad
      obtain ⟨ap, cg⟩ := Zc cI
      refine aW.mx_ 22 ap ab (me_ 74 0 (.agg #[i_ ((gt (D.drop k3.toNat) e).1), i_ ((gt (D.drop k3.toNat) e).2.1), i_ ((gt (D.drop k3.toNat) e).2.2)]) aW ap ab (e_' (.slice Z ac aa) (e_' (i_ e) ?_)))
      obtain ⟨bm, ch⟩ := Zc cg
      refine d_w ((e - 1)) (k := .i64) (x := (e - 1)) (by kernel_rfl) (Zs bm) ?_
      obtain ⟨aT, cS⟩ := al.sq ad
      obtain ⟨aq, ci⟩ := Zc ch
      refine aT.mx_ 22 aq.1 aq.2 (me_ 74 0 (.agg #[i_ ((gt (D.drop k3.toNat) (e - 1)).1), i_ ((gt (D.drop k3.toNat) (e - 1)).2.1), i_ ((gt (D.drop k3.toNat) (e - 1)).2.2)]) aT aq.1 aq.2 ?_)
      obtain ⟨bg, bD, a_⟩ := bs_ ci
      refine dk_ (Zfa ao.wf bD) ?_
      rintro _ cN ⟨rfl, af⟩
      refine ⟨ZN, ?_⟩
      refine e_' (.bool (!bg)) ?_
      refine ZO ?_
      refine b7 _ _ ?_
      refine wb_ ((!bg)) (fun ay => ?_) fun ay => ?_
      ·have cj := Zd ay a_
       refine sq_ fun bH => g_' (q_ (I) (q_ (i_ k1) (q_ (.slice Z ac aa) (q_ (i_ e) ?_))))
       have aE := (ad.fr af dn_)
       obtain ⟨aU, cT⟩ := al.sq aE
       refine aU.ix_ 22 ap ab (le_ 74 0 (.agg #[i_ ((gt (D.drop k3.toNat) e).1), i_ ((gt (D.drop k3.toNat) e).2.1), i_ ((gt (D.drop k3.toNat) e).2.2)]) aU ap ab ?_)
       obtain ⟨ar, cm⟩ := Zc cj
       refine aE.sq.ix_ 22 ar.1 ar.2 ?_
       obtain ⟨cO, b_, bk, bv⟩ := Ow.store (P := Tryz.prog) (t := 74) (off := 0) af.wf aE ar.1 ar.2 (.agg #[i_ ((gt (D.drop k3.toNat) e).1), i_ ((gt (D.drop k3.toNat) e).2.1), i_ ((gt (D.drop k3.toNat) e).2.2)]) [i_ ((gt (D.drop k3.toNat) e).1), i_ ((gt (D.drop k3.toNat) e).2.1), i_ ((gt (D.drop k3.toNat) e).2.2)] (by kernel_rfl) (by kernel_rfl) rfl ((gt (D.drop k3.toNat) e).1, (gt (D.drop k3.toNat) e).2.1, (gt (D.drop k3.toNat) e).2.2) (Nat.le_of_ble_eq_true rfl) (by kernel_rfl)
       refine ek_ b_ (Za (bH _ _ (g_' (q_ (i_ k1) ?_))))
       obtain ⟨bn, cn⟩ := Zc cm
       refine w_' ((k1 + 1)) (Zs (by have := bn; omega)) (q_ (i_ (k1 + 1)) (Za (aZ _ _ (g_' (q_ (i_ e) ?_)))))
       obtain ⟨bo, co⟩ := Zc cn
       refine w_' ((e + 1)) (Zs (by have := bo; omega)) (q_ (i_ (e + 1)) (Za ?_))
       obtain rfl := oi_ co
       exact aY a7 _ _ lt_ ⟨(D.set k1.toNat ((gt (D.drop k3.toNat) e).1, (gt (D.drop k3.toNat) e).2.1, (gt (D.drop k3.toNat) e).2.2)), (k1 + 1), (e + 1), aC, ha_, (fs_ U.wf (fs_ U.wf (fs_ U.wf (fr_ U.wf) ao ir_) af in_) bk ir_), bv⟩
      have cp := ZQ ay a_
      refine Zi (aZ _ _ (g_' (q_ (i_ e) ?_)))
      obtain ⟨bp, cq⟩ := Zc cp
      refine w_' ((e + 1)) (Zs (by have := bp; omega)) (q_ (i_ (e + 1)) (Za ?_))
      have cJ := (ad.fr af dn_)
      obtain rfl := oi_ cq
      exact aY a7 _ _ lt_ ⟨D, k1, (e + 1), aC, ha_, (fs_ U.wf (fs_ U.wf (fr_ U.wf) ao ir_) af in_), cJ⟩
     have cr := Zj ab ak
     refine Zaf (Zq (Zq (Zau ?_)))
     obtain rfl := oi_ cr
     obtain rfl := ZL aC
     exact bY _ _ ⟨ha_, (fs_ U.wf (fr_ U.wf) ao ir_), ad⟩
    obtain ⟨aQ, aJ, a1⟩ := hM
    obtain ⟨β, rfl⟩ := Zo aQ
    clear aQ
    refine bV _ _ (sq_ fun bJ => g_' (q_ (I) (q_ (i_ V.2) ?_)))
    obtain ⟨aK, cu⟩ := Zc cH
    obtain ⟨cW, ca, bf⟩ := Ow.view (P := Tryz.prog) a1 (t := 22) (by kernel_rfl) (lo := some (i_ V.2)) (l := V.2.toNat) (ZdV _ (by have := aK; omega)) (by have := aK; omega)
    obtain ⟨bi, b8, bj, rfl⟩ := bf.form
    refine ZbC (.slice bi b8 bj) (by kernel_rfl) ca ?_
    obtain ⟨bq, cv⟩ := Zc cu
    obtain ⟨cP, cc, bl, aS⟩ := View.clear (P := Tryz.prog) (m := 24) (at_ := #[22]) bf ((0, 0, 0) : Int × Int × Int) aJ.wf a1 bq rfl (by kernel_rfl)
    refine ZcJ (.tuple #[]) (by kernel_rfl) (Zii cc) ?_
    refine Za (bJ _ _ (sq_ fun bL => g_' (q_ (I) (q_ (i_ V.2) ?_))))
    obtain ⟨aL, cw⟩ := Zc cv
    obtain ⟨cX, cd, aV⟩ := Ow.head (P := Tryz.prog) aS (t := 22) (by kernel_rfl) (hi := (some (i_ V.2))) (r := V.2.toNat) (ZdV _ (by have := aL; omega)) (by have := aL; omega)
    obtain ⟨am, av, an, rfl⟩ := aV.form
    refine ZbC (.slice am av an) (by kernel_rfl) cd ?_
    refine q_ (.slice am av an) (Za (bL _ _ ?_))
    refine Zf (Z6 (Zg (Zg (Z6 (Zg (Zg ?_))))))
    obtain ⟨cZ, aX, bF⟩ := map_some cw
    subst bF
    obtain rfl := ZL aB
    have bz := elim_inl ba
    rw [bz] at aX
    refine br_ [.slice am av an] ?_
    obtain rfl := oi_ aX
    exact ⟨(.slice am av an), rfl, (fs_ O (fs_ O (fs_ O (fs_ O (fr_ O) ag in_) U in_) aJ ir_) bl ir_), aV, aS⟩
   have cx := ZQ az bb
   refine Zi (bR _ _ (g_' (q_ (i_ k3) ?_)))
   obtain ⟨br, cy⟩ := Zc cx
   refine w_' ((k3 + 1)) (Zs (by have := br; omega)) (q_ (i_ (k3 + 1)) (Za ?_))
   obtain rfl := oi_ cy
   exact bO b9 _ _ lt_ ⟨(k3 + 1), aB, ha_, (fs_ O (fs_ O (f0_ O) ag in_) U in_)⟩
  have cz := Zj ah aj
  refine Zaf (Zq (Zq (Zau ?_)))
  obtain rfl := oi_ cz
  obtain rfl := ZL aB
  exact bN _ _ ⟨_, rfl, ha_, (fs_ O (f0_ O) ag in_)⟩
 obtain ⟨a8, rfl, aO, aI⟩ := hM
 have cA := elim_inr ba
 obtain ⟨β, rfl⟩ := Zo aO
 clear aO
 refine bI _ _ (sq_ fun bM => g_' (q_ (I) (q_ (I) (Za (bM _ _ ?_)))))
 refine Zf ?_
 refine br_ [I] ?_
 have bd := (ai.fr aI dn_)
 obtain rfl := oi_ cA
 exact ⟨(I), rfl, (fs_ O (fr_ O) aI in_), bd, bd⟩
theorem Zi4 {H : AH} {ak : Value} {bX : Fp} {I : Int} {Arcs : List (Int × Int × Int)} {r : Int × List (Int × Int × Int) × Er}
    (U : WF H) (aX : Sq ZA 3 H ak Arcs bX) (aH : ZcV I Arcs = some r) :
    ACalls Tryz.prog 56 #[.agg #[i_ I, ak]] H fun v H' => ∃ (bE : Value) (aT : Fp) (bN : Value) (aU : Fp), v = .tuple #[.agg #[i_ r.1, bE], bN] /\ FrS [] H H' /\ Ow ZA 3 H' bE r.2.1 aT /\ Ev 78 116 H' bN r.2.2 aU /\ Inn [] H aT /\ Inn [] H aU /\ Dj aT aU := by
 refine ab_ Tryz.func56 ?_
 unfold ZcV at aH
 refine sq_ fun ci => g_' ?_
 refine Zf5 U [i_ I, ak] (Zbd (rfl) (Zbd (aX.one1) (ZdX))) (by kernel_rfl) fun bc dp ab dC bC => ?_
 refine rk_ ab.wf [i_ 0, .slice none 0 0] fun aB dv ac bj au => ?_
 refine q_ (.nilIface) (Za (ci _ _ (sq_ fun co => sq_ fun cp => g_' ?_)))
 have bI := (bC.ext ac)
 refine lr_ 24 0 (.agg #[i_ I, ak]) bI ?_
 have bJ := ((aX.ext ab).ext ac)
 obtain ⟨dL, ce, bD⟩ := bs_ aH
 refine ck_ (ZhQ ac.wf bJ ce) ?_
 rintro bM dw ⟨_, bW, rfl, O, bu, bp⟩
 refine q_ (bM) (Za (cp _ _ (sq_ fun br => g_' (q_ (bM) ?_))))
 rcases (bu).cases with ⟨aW, rfl⟩ | ⟨aW, av, aw, rfl⟩
 ·have c3 := Zd aW bD
  refine q_ (.bool false) (Za (br _ _ ?_))
  refine wb_ false (fun h => by cases h) fun _ => ?_
  refine Zi (co _ _ (sq_ fun cq => g_' (q_ (pt_ bc 0) ?_)))
  have bK := (bI.frS O dn_)
  refine lr_ 3 0 (i_ I) bK (q_ (.agg #[i_ I, .slice none 0 0]) ?_)
  refine rk_ O.wf [i_ 0, .slice none 0 0] fun V dx af aj am => ?_
  obtain ⟨ax, cK, D, c4⟩ := ra_ 24 0 af.wf am [i_ I, .slice none 0 0] [i_ I, .slice none 0 0]
  refine ek_ cK (Za (cq _ _ (sq_ fun cr => sq_ fun cu => g_' (q_ (pt_ bc 1) ?_))))
  have cD := (t_ ac.n O.n)
  have bU := (aj.djn (bC.ltF.le cD))
  have dg := ((bK.ext af).frS D bU)
  refine lr_ 22 1 (ak) dg ?_
  have aJ := (t_ (t_ ab.n ac.n) O.n)
  have be := (aj.djn (aX.lt.le aJ))
  have bL := (((bJ.fr O dn_).ext af).fr D be)
  refine bL.ln_ 22 (q_ (i_ 0) (Za (cu _ _ ?_)))
  obtain ⟨bA, ca, c5⟩ := bs_ c3
  refine ZP (fun α ay => ∃ (a8 : Value) (aG : Fp), Has α [(2, pt_ aB 0), (5, pt_ V 0)] /\ FrS [V] ax ay /\ Ow ZA 3 ay a8 bA aG /\ Row ay V [i_ I, a8] /\ Inn [] ax aG) (fun _ cv => ?_) (fun α ay hM => ?_)
  ·refine Zr ?_
   obtain ⟨bx, b9⟩ := ZC.1 ca
   refine Z9 (fun n α az => ∃ (e : Int), ∃ (c1 : List (Int × Int × Int)), ∃ (ba : Value), ∃ (an : Fp), ZT (fun zz_ => Zca Arcs zz_.1 zz_.2) n (e, c1) = some bA /\ Has α [(2, pt_ aB 0), (5, pt_ V 0), (18, ak), (19, i_ (Arcs.length : Int)), (20, i_ e)] /\ FrS [V] ax az /\ Ow ZA 3 az ba c1 an /\ Row az V [i_ I, ba] /\ Inn [] ax an) bx ⟨0, [], (.slice none 0 0), [], b9, ha_, (fr_ D.wf), (Ow.nil (by decide)), c4, in_⟩ ?_
   rintro bx α az ⟨e, c1, ba, an, b7, bm, Y, al, aZ, ar⟩ dy bs
   obtain ⟨bz, dh, rfl, ap, aY⟩ := ZJ b7
   obtain ⟨β, rfl⟩ := Zo bm
   clear bm
   replace ap : Zca Arcs e c1 = some dh := ap
   unfold Zca at ap
   obtain ⟨aL, a6, aN, rfl⟩ := al.form
   refine sq_ fun cw => g_' (q_ (.bool (decide (e < (Arcs.length : Int)))) (Za (cw _ _ (sq_ fun cf => ?_))))
   refine wc_ (e < (Arcs.length : Int)) (fun ao => ?_) fun ao => ?_
   ·have cL := Zd ao ap
    refine Zi (cf _ _ (sq_ fun bq => Zr (sq_ fun cg => g_' ?_)))
    obtain ⟨bi, bB⟩ := Zc cL
    have bF := (bL.fr Y be)
    refine bF.ix_ 22 bi ao (le_ 74 0 (.agg #[i_ ((gt Arcs e).1), i_ ((gt Arcs e).2.1), i_ ((gt Arcs e).2.2)]) bF bi ao ?_)
    refine rk_ Y.wf [i_ 0, i_ 0, i_ 0] fun bb di Z ai cM => ?_
    obtain ⟨dk, cE, aa, a7⟩ := ra_ 74 0 Z.wf cM [i_ ((gt Arcs e).1), i_ ((gt Arcs e).2.1), i_ ((gt Arcs e).2.2)] [i_ ((gt Arcs e).1), i_ ((gt Arcs e).2.1), i_ ((gt Arcs e).2.2)]
    refine ek_ cE (Za (cg _ _ (sq_ fun ch => g_' (q_ (pt_ bb 0) (lr_ 3 0 (i_ ((gt Arcs e).1)) a7 (q_ (pt_ bb 1) (lr_ 3 1 (i_ ((gt Arcs e).2.1)) a7 (q_ (.bool (!decide (((gt Arcs e).1) = ((gt Arcs e).2.1)))) (Za (ch _ _ ?_))))))))))
    refine Zdx (((gt Arcs e).1) = ((gt Arcs e).2.1)) (by kernel_rfl) rfl (fun aV => ?_) (fun aV => ?_)
    ·have cN := Zj aV bB
     refine g_' (q_ (pt_ V 1) ?_)
     have cx := (t_ D.n Y.n)
     have bQ := (ai.djn (am.ltF.le cx))
     have bG := ((aZ.ext Z).frS aa bQ)
     refine lr_ 22 1 (.slice aL a6 aN) bG (lr_ 74 0 (.agg #[i_ ((gt Arcs e).1), i_ ((gt Arcs e).2.1), i_ ((gt Arcs e).2.2)]) a7 ?_)
     refine Zcz (enc := ZA) (sz := 3) aa.wf [((gt Arcs e).1, (gt Arcs e).2.1, (gt Arcs e).2.2)] 1 (by decide) (fun _ _ => rfl) (fun _ _ => rfl) rfl (by kernel_rfl) fun dG dB dm ah dD bn => ?_
     obtain ⟨dz, dF, dA, rfl⟩ := bn.form
     have c6 := (((al.ext Z).fr aa (ai.djn al.lt)).ext ah)
     obtain ⟨bY, cO⟩ := Zc cN
     obtain ⟨dH, dn, bV, cF, aR, bo, bk⟩ := Ow.append (P := Tryz.prog) 24 ah.wf c6 bn.sq (fun _ _ => rfl) (at_ := #[22, 22]) rfl rfl (by kernel_rfl) (by kernel_rfl) (by decide) (by have := bY; first | omega | (simp only [List.length_cons, List.length_nil] at this ⊢; omega) | (simp at this ⊢; omega))
     obtain ⟨aA, aI, aC, rfl⟩ := bo.form
     refine ZcJ (.slice aA aI aC) (by kernel_rfl) (cF) ?_
     refine q_ (pt_ V 1) ?_
     have bd := (ar.djn (am.ltF.le D.n))
     have c7 := ((bG.ext ah).frS aR bd)
     obtain ⟨dq, cG, bf, cP⟩ := rb_ 22 1 aR.wf c7 (.slice aA aI aC) [i_ I, .slice aA aI aC]
     refine ek_ cG (Za (bq _ _ (g_' ?_)))
     obtain ⟨bZ, cQ⟩ := Zc cO
     refine w_' ((e + 1)) (Zs (by have := bZ; omega)) (q_ (i_ (e + 1)) (Za ?_))
     have cy := (t_ (t_ (t_ (t_ D.n Y.n) Z.n) aa.n) ah.n)
     have bR := (bk.dj bd (am.ltF.le cy))
     have c8 := (bo.fr bf (Dj.symm bR))
     have cz := (t_ (t_ (t_ Y.n Z.n) aa.n) ah.n)
     obtain rfl := oi_ cQ
     exact bs bz _ _ lt_ ⟨(e + 1), (c1 ++ [((gt Arcs e).1, (gt Arcs e).2.1, (gt Arcs e).2.2)]), (.slice aA aI aC), bV, aY, ha_, (fs_ D.wf (fs_ D.wf ((fs_ D.wf ((fs_ D.wf (fr_ D.wf) Y ir_).extR Z) aa (ai.fresh Y.n)).extR ah) aR (ar.fresh (Nat.le_refl _))) bf ir_), c8, cP, (Inn.trans (ar.fresh (Nat.le_refl _)) cz bk)⟩
    have cR := Zd aV bB
    refine Zi (bq _ _ (g_' ?_))
    obtain ⟨b5, cS⟩ := Zc cR
    refine w_' ((e + 1)) (Zs (by have := b5; omega)) (q_ (i_ (e + 1)) (Za ?_))
    have c9 := ((al.ext Z).fr aa (ai.djn al.lt))
    have cA := (t_ D.n Y.n)
    have bS := (ai.djn (am.ltF.le cA))
    have c_ := ((aZ.ext Z).frS aa bS)
    obtain rfl := oi_ cS
    exact bs bz _ _ lt_ ⟨(e + 1), c1, (.slice aL a6 aN), an, aY, ha_, (fs_ D.wf ((fs_ D.wf (fr_ D.wf) Y ir_).extR Z) aa (ai.fresh Y.n)), c9, c_, (ar.fresh (Nat.le_refl _))⟩
   have cT := Zj ao ap
   refine Zaf (Zq (Zq (Zau ?_)))
   obtain rfl := oi_ cT
   obtain rfl := ZL aY
   exact cv _ _ ⟨(.slice aL a6 aN), an, ha_, (fs_ D.wf (fr_ D.wf) Y ir_), al, aZ, (ar.fresh (Nat.le_refl _))⟩
  obtain ⟨a8, aG, bl, aS, bv, bw, aq⟩ := hM
  obtain ⟨β, rfl⟩ := Zo bl
  clear bl
  obtain ⟨aK, a1, aM, rfl⟩ := bv.form
  refine cr _ _ (sq_ fun cj => g_' (q_ (pt_ V 1) (lr_ 22 1 (.slice aK a1 aM) bw ?_)))
  obtain ⟨b6, cU⟩ := Zc c5
  obtain ⟨dJ, cc, cV⟩ := bs_ cU
  refine ZeX 80 #[.slice aK a1 aM, .func (.func 81) #[] #[]] (by kernel_rfl) (ZmI (enc := ZA) (fun _ => rfl) (by intro x v hv; simp only [ZA, List.mem_cons, List.not_mem_nil, or_false] at hv; rcases hv with rfl | rfl | rfl <;> rfl) (by intro x v hv; simp only [ZA, List.mem_cons, List.not_mem_nil, or_false] at hv; rcases hv with rfl | rfl | rfl <;> rfl) (c := (fun (a_ b_ : Int × Int × Int) => Zbh a_.1 a_.2.1 a_.2.2 b_.1 b_.2.1 b_.2.2)) (Go.Proofs.enters_of Tryz.func81 (by kernel_rfl) rfl) (fun x y r aH => (Zhd Zms aH).mono fun v H' h => h.1) aS.wf bv b6 cc) ?_
  rintro _ dr ⟨rfl, aD, b8⟩
  refine Za (cj _ _ (sq_ fun ck => g_' (q_ (pt_ V 1) ?_)))
  have aO := (aq.djn (am.ltF.le D.n))
  have bH := (bw.frS aD aO)
  refine lr_ 22 1 (.slice aK a1 aM) bH ?_
  obtain ⟨dK, cd, cW⟩ := bs_ cV
  refine ck_ (Ze0 aD.wf b8 cd) ?_
  rintro dI dt ⟨_, rfl, aE, bt, dE⟩
  obtain ⟨ad, ag, ae, rfl⟩ := bt.form
  refine q_ (pt_ V 1) ?_
  have da := (bH.frS aE aO)
  obtain ⟨du, cH, aF, cX⟩ := rb_ 22 1 aE.wf da (.slice ad ag ae) [i_ I, .slice ad ag ae]
  refine ek_ cH (Za (ck _ _ (sq_ fun cm => g_' (lr_ 24 0 (.agg #[i_ I, .slice ad ag ae]) cX ?_))))
  have aP := (aj.djn (au.ltF.le O.n))
  have cB := (t_ (t_ O.n af.n) D.n)
  have aQ := (aq.djn (au.ltF.le cB))
  have db := (((((((au.frS O dn_).ext af).frS D aP).frS aS aP).frS aD aQ).frS aE aQ).frS aF aP)
  have dc := (bt.fr aF (Dj.symm aO))
  obtain ⟨bO, cI, bg, cY⟩ := ra_ 24 0 aF.wf db [i_ I, .slice ad ag ae] [i_ I, .slice ad ag ae]
  refine ek_ cI (q_ (.nilIface) (Za (cm _ _ ?_)))
  refine Zf ?_
  refine Zcy (vs := [.agg #[i_ I, .slice ad ag ae], .nilIface]) (Zda (Eq.trans (b := aL_ 24 (pt_ aB 0) bO) (by kernel_rfl) (cY.l_)) (rt_ (rfl))) ?_
  have a2 := (t_ (t_ (t_ (t_ ab.n ac.n) O.n) af.n) D.n)
  have dd := (dc.fr bg (Dj.symm aQ))
  obtain rfl := oi_ cW
  exact ⟨(.slice ad ag ae), aG, (.nilIface), [], rfl, (fs_ U (fs_ U (fs_ U (fs_ U (fs_ U (fs_ U ((fs_ U (((f0_ U).extR ab).extR ac) O in_).extR af) D (aj.fresh aJ)) aS (aj.fresh aJ)) aD (aq.fresh a2)) aE (aq.fresh a2)) aF (aj.fresh aJ)) bg (bj.fresh ab.n)), dd, Ev.nil, (aq.fresh a2), in_, Dj.nil_r⟩
 have cZ := Zj aW bD
 refine l_' (.bool true) (Z2 Tryz.prog .neq 38 (.tmp 10) (.const .nilIface) (.iface av aw) .nilIface) (Z4 (by kernel_rfl)) (Za (br _ _ ?_))
 refine wb_ true (fun _ => ?_) fun h => by cases h
 refine sq_ fun cn => g_' (q_ (.agg #[i_ 0, .slice none 0 0]) (q_ (.iface av aw) ?_))
 have de := (au.frS O dn_)
 obtain ⟨bP, cJ, bh, c0⟩ := ra_ 24 0 O.wf de [i_ 0, .slice none 0 0] [i_ 0, .slice none 0 0]
 refine ek_ cJ (q_ (.iface av aw) (Za (cn _ _ ?_)))
 refine Zf (Zg ?_)
 refine Zcy (vs := [.agg #[i_ 0, .slice none 0 0], .iface av aw]) (Zda (Eq.trans (b := aL_ 24 (pt_ aB 0) bP) (by kernel_rfl) (c0.l_)) (rt_ (rfl))) ?_
 have bT := (bp.djn au.ltF)
 have df := (bu.fr bh (Dj.symm bT))
 have cC := (t_ ab.n ac.n)
 obtain rfl := oi_ cZ
 exact ⟨(.slice none 0 0), [], (.iface av aw), bW, rfl, (fs_ U (fs_ U (((f0_ U).extR ab).extR ac) O in_) bh (bj.fresh ab.n)), (Ow.nil (by decide)), df, in_, (bp.fresh cC), dn_⟩
end Go.Vd

/-! (KSx1) -/

set_option maxRecDepth 100000
set_option maxHeartbeats 4000000
set_option linter.unusedVariables false
namespace Go.Vd
open Go.Proofs
attribute [local irreducible] Zh Zk aWp
theorem Zfd {H : AH} {aU : Value} {cF : Fp} {aO : Int} {Arcs : List (Int × Int × Int)} {r : (Er) ⊕ (List (Bool × List (Int × Int × Int) × List (Int × Int × Int)) × Int × Int)}
    (ap : WF H) (bD : Sq ZA 3 H aU Arcs cF) (bN : ZbU aO Arcs = some r) :
    ACalls Tryz.prog 26 #[.agg #[i_ aO, aU]] H fun v H' => Sum.elim (fun (r : Er) => ∃ (v3 : Value) (bA : Fp), v = .tuple #[.pointer none, v3] /\ FrS [] H H' /\ Ev 78 116 H' v3 r bA /\ Inn [] H bA) (fun (r : List (Bool × List (Int × Int × Int) × List (Int × Int × Int)) × Int × Int) => ∃ (bY : Value) (bf : Fp) (aP : Nat), v = .tuple #[pt_ aP 0, .nilIface] /\ FrS [] H H' /\ Nd Zb 3 H' bY r.1 bf [] /\ Row H' aP [bY, i_ r.2.1, i_ r.2.2] /\ Inn [] H bf /\ Inn [] H [aP] /\ Dj bf [aP]) r := by
 refine ab_ Tryz.func26 ?_
 unfold ZbU at bN
 refine sq_ fun c_ => g_' ?_
 refine Zf5 ap [i_ aO, aU] (Zbd (rfl) (Zbd (bD.one1) (ZdX))) (by kernel_rfl) fun eh d_ ae et dK => ?_
 refine q_ (.pointer none) (q_ (.nilIface) (Za (c_ _ _ (sq_ fun da => g_' (lr_ 24 0 (.agg #[i_ aO, aU]) dK ?_)))))
 have d1 := (bD.ext ae)
 obtain ⟨e, c0, bW⟩ := bs_ bN
 refine ck_ (Zi4 ae.wf d1 c0) ?_
 rintro _ ea ⟨eE, f29, a2, cE, rfl, an, aY, bS, ex, c3, el⟩
 obtain ⟨aq, av, ar, rfl⟩ := aY.form
 refine q_ (.tuple #[.agg #[i_ e.1, .slice aq av ar], a2]) (q_ (.agg #[i_ e.1, .slice aq av ar]) (q_ (a2) ?_))
 refine rk_ an.wf [i_ 0, .slice none 0 0] fun aQ eb ag aT dQ => ?_
 have d5 := (aY.ext ag)
 obtain ⟨ec, dD, ah, bX⟩ := ra_ 24 0 ag.wf dQ [i_ e.1, .slice aq av ar] [i_ e.1, .slice aq av ar]
 refine ek_ dD (q_ (a2) (Za (da _ _ (sq_ fun dd => sq_ fun bP => g_' (q_ (a2) ?_)))))
 have b7 := ((bS.ext ag).fr ah (aT.djn bS.lt))
 rcases (b7).cases with ⟨bg, rfl⟩ | ⟨bg, aI, aL, rfl⟩
 ·have dR := Zd bg bW
  refine q_ (.bool false) (Za (bP _ _ ?_))
  refine wb_ false (fun h => by cases h) fun _ => ?_
  refine Zi (dd _ _ (sq_ fun de => ?_))
  refine Z0 [0, 1, 2, 3, 4, 5, 6, 7, 8, 9, 10] (by kernel_rfl) ?_
  refine e_' (pt_ aQ 0) (mr_ 3 0 (i_ e.1) bX ?_)
  obtain ⟨bC, dS⟩ := Zc dR
  refine d_mks (t := 123) (m := 56) (l := e.1) (c := e.1) (enc := id) (sz := 3) ah.wf [.bool false, .slice none 0 0, .slice none 0 0] (by kernel_rfl) (by decide) bC.1 (Int.le_refl _) (by omega) (by have := bC; omega) (by kernel_rfl) fun eF aA cc az bi ai => ?_
  replace ai := Nd.zeros (enc := Zb) (sz := 3) (by decide) ai
  obtain ⟨O, V, U, rfl⟩ := ai.form
  have ai : Nd Zb 3 cc (.slice O V U) (List.replicate e.1.toNat (false, [], [])) aA [] := ai
  refine e_' (pt_ aQ 0) ?_
  have bp := (bX.ext az)
  refine mr_ 3 0 (i_ e.1) bp (e_' (pt_ aQ 1) (mr_ 22 1 (.slice aq av ar) bp ?_))
  have b8 := ((d5.fr ah (aT.djn aY.lt)).ext az)
  refine b8.sq.mn_ 22 (e_' (.agg #[.slice O V U, i_ e.1, i_ (e.2.1.length : Int)]) ?_)
  refine d_rwl az.wf [.slice O V U, i_ e.1, i_ (e.2.1.length : Int)] (Zbd (ai.one1) (Zbd (rfl) (Zbd (rfl) (ZdX)))) (by kernel_rfl) fun Y aN Z bh aj => ?_
  refine e_' (pt_ Y 0) ?_
  refine ZO ?_
  refine de _ _ (sq_ fun df => sq_ fun dg => g_' (q_ (pt_ aQ 1) ?_))
  have d6 := (bp.ext Z)
  refine lr_ 22 1 (.slice aq av ar) d6 ?_
  have b9 := (b8.ext Z)
  refine b9.sq.ln_ 22 (q_ (i_ 0) (Za (dg _ _ ?_)))
  obtain ⟨bV, cZ, dT⟩ := bs_ dS
  refine ZP (fun α bc => ∃ (aR : Fp), Has α [(6, pt_ Y 0)] /\ FrS aA aN bc /\ Nd Zb 3 bc (.slice O V U) bV aR [] /\ Inn aA aN aR) (fun _ dh => ?_) (fun α bc hM => ?_)
  ·refine Zr ?_
   obtain ⟨bU, cS⟩ := ZC.1 cZ
   have dU := (ai.ext Z)
   refine Z9 (fun n α a_ => ∃ (D : Int), ∃ (I : List (Bool × List (Int × Int × Int) × List (Int × Int × Int))), ∃ (aD : Fp), ZT (fun zz_ => ZbJ e zz_.1 zz_.2) n (D, I) = some bV /\ Has α [(6, pt_ Y 0), (28, .slice aq av ar), (29, i_ (e.2.1.length : Int)), (30, i_ D)] /\ FrS aA aN a_ /\ Nd Zb 3 a_ (.slice O V U) I aD [] /\ Inn aA aN aD) bU ⟨0, (List.replicate e.1.toNat (false, [], [])), aA, cS, ha_, (fr_ Z.wf), dU, ir_⟩ ?_
   rintro bU α a_ ⟨D, I, aD, cN, bG, af, aX, au⟩ ed c4
   obtain ⟨dk, d8, rfl, aF, bM⟩ := ZJ cN
   obtain ⟨β, rfl⟩ := Zo bG
   clear bG
   replace aF : ZbJ e D I = some d8 := aF
   unfold ZbJ at aF
   refine sq_ fun c5 => g_' (q_ (.bool (decide (D < (e.2.1.length : Int)))) (Za (c5 _ _ (sq_ fun c6 => ?_))))
   refine wc_ (D < (e.2.1.length : Int)) (fun aE => ?_) fun aE => ?_
   ·have dE := Zd aE aF
    refine Zi (c6 _ _ (sq_ fun c7 => Zr (sq_ fun c8 => g_' ?_)))
    obtain ⟨bB, dF⟩ := Zc dE
    have dm := (t_ ag.n ah.n)
    have cm := (bi.djn (aY.lt.le dm))
    have bZ := (b9.fr af cm)
    refine bZ.sq.ix_ 22 bB aE (le_ 74 0 (.agg #[i_ ((gt e.2.1 D).1), i_ ((gt e.2.1 D).2.1), i_ ((gt e.2.1 D).2.2)]) bZ.sq bB aE ?_)
    refine rk_ af.wf [i_ 0, i_ 0, i_ 0] fun ac d9 aw aS aG => ?_
    obtain ⟨aM, dy, ak, aH⟩ := ra_ 74 0 aw.wf aG [i_ ((gt e.2.1 D).1), i_ ((gt e.2.1 D).2.1), i_ ((gt e.2.1 D).2.2)] [i_ ((gt e.2.1 D).1), i_ ((gt e.2.1 D).2.1), i_ ((gt e.2.1 D).2.2)]
    refine ek_ dy (Za (c8 _ _ (sq_ fun c9 => ?_)))
    refine Z0 [0, 1, 2, 3, 4, 5, 6, 7, 8, 9, 10, 11, 12, 13, 14, 15, 16, 17, 18, 19, 20, 21, 22, 23, 24, 25] (by kernel_rfl) ?_
    refine e_' (pt_ Y 0) (e_' (pt_ Y 0) (e_' (pt_ Y 0) ?_))
    have bs := (bh.djn ai.lt)
    have cn := (aS.djn (aj.ltF.le af.n))
    have bl := (((aj.frS af (Dj.symm bs)).ext aw).frS ak cn)
    refine ZcU (.slice O V U) (x := aL_ 123 (pt_ Y 0) aM) (by kernel_rfl) (bl.l_) ?_
    refine e_' (pt_ ac 0) ?_
    refine ZcU (i_ ((gt e.2.1 D).1)) (x := aL_ 3 (pt_ ac 0) aM) (by kernel_rfl) (aH.l_) ?_
    refine e_' (pt_ Y 0) (e_' (pt_ Y 0) (e_' (pt_ Y 0) (mr_ 123 0 (.slice O V U) bl (e_' (pt_ ac 0) (mr_ 3 0 (i_ ((gt e.2.1 D).1)) aH ?_)))))
    obtain ⟨aa, dG⟩ := Zc dF
    have a1 := ((aX.ext aw).fr ak (aS.djn aX.lt))
    refine a1.mx_ 123 aa.1 aa.2 (m_' (elp (.slice O V U) 3 ((gt e.2.1 D).1).toNat 1) (Zv Tryz.prog 138 (elp (.slice O V U) 3 ((gt e.2.1 D).1).toNat 0) 1) (Nd.fldq (d := 1) a1 aa.1 aa.2 (by kernel_rfl)) ?_)
    obtain ⟨dV, eG, cQ, cO⟩ := Nd.at a1 aa.1 aa.2
    have bQ : KdS Zb 3 aM dV ((gt I ((gt e.2.1 D).1)).2.1) aD (.slice O V U) 3 ((gt e.2.1 D).1).toNat 1 := cO false (by simp)
    obtain ⟨cd, dn, ch, rfl⟩ := bQ.sq.form
    refine m_' (.slice cd dn ch) (aL_ 75 (elp (.slice O V U) 3 ((gt e.2.1 D).1).toNat 1) aM) (cQ _ _ _ _ (by kernel_rfl)) (e_' (pt_ ac 1) (mr_ 3 1 (i_ ((gt e.2.1 D).2.1)) aH (e_' (pt_ ac 2) (mr_ 3 2 (i_ ((gt e.2.1 D).2.2)) aH ?_))))
    obtain ⟨cG, dH⟩ := Zc dG
    refine d_w ((gt e.2.1 D).2.2) (k := .u64) (x := (gt e.2.1 D).2.2) (by kernel_rfl) (ZdY cG) ?_
    refine e_' (.agg #[i_ ((gt e.2.1 D).2.1), .int .u64 ((gt e.2.1 D).2.2), i_ (-1)]) ?_
    refine Zh1 (enc := Zb) (sz := 3) ak.wf [((gt e.2.1 D).2.1, (gt e.2.1 D).2.2, (-1))] 1 (by decide) (fun _ _ => rfl) (fun _ _ => rfl) rfl (by kernel_rfl) fun eA em ba ad eu bI => ?_
    obtain ⟨ee, ey, ej, rfl⟩ := bI.form
    have dW := (a1.ext ad)
    have dX := (bQ.ext ad)
    obtain ⟨cC, en, aV, cT, bt, cV, cW⟩ := Nd.borrow false dW aa.1 aa.2 (by simp) dX rfl
    have a6 := Inn.sub' (H := ba) cV
    have a7 := Inn.sub' (H := ba) cW
    have aV : Nd Zb 3 ba (.slice O V U) I cC [(((gt e.2.1 D).1).toNat, false)] := aV
    obtain ⟨cH, dI⟩ := Zc dH
    obtain ⟨eB, bq, eo, dz, al, bJ, bE⟩ := Ow.append (P := Tryz.prog) 24 ad.wf cT bI.sq (fun _ _ => rfl) (at_ := #[75, 75]) rfl rfl (by kernel_rfl) (by kernel_rfl) (by decide) (by have := cH; first | omega | (simp only [List.length_cons, List.length_nil] at this ⊢; omega) | (simp at this ⊢; omega))
    obtain ⟨ce, dp, ci, rfl⟩ := bJ.form
    have bd := (au.dj (Dj.symm bs) aj.ltF)
    have ao := (t_ (t_ (t_ af.n aw.n) ak.n) ad.n)
    have co := (a7.dj bd (aj.ltF.le ao))
    have b5 := ((bl.ext ad).frS al co)
    have be := (aS.djn aX.lt)
    have bk := (t_ ak.n ad.n)
    have cp := (a7.dj (Dj.symm be) (aG.ltF.le bk))
    have b6 := ((aH.ext ad).frS al cp)
    refine ZgB (.slice ce dp ci) (by kernel_rfl) (dz) (ZbS (y := aL_ 3 (pt_ ac 0) bq) (by kernel_rfl) (b6.l_) (ZbS (y := aL_ 123 (pt_ Y 0) bq) (by kernel_rfl) (b5.l_) (ZN))) ?_
    have bm := (aV.fr al (Dj.symm bt))
    refine bm.mx_ 123 aa.1 aa.2 (m_' (elp (.slice O V U) 3 ((gt e.2.1 D).1).toNat 1) (Zv Tryz.prog 138 (elp (.slice O V U) 3 ((gt e.2.1 D).1).toNat 0) 1) (Nd.fldq (d := 1) bm aa.1 aa.2 (by kernel_rfl)) ?_)
    have cq := (bE.dj (Dj.symm bt) aV.lt)
    obtain ⟨aC, bx, dA, ax, aB, cL⟩ := Nd.close (P := Tryz.prog) (t := 75) false al.wf bm bJ (Dj.symm cq) aa.1 aa.2 (by kernel_rfl) (by kernel_rfl) (by kernel_rfl)
    have aB : Nd Zb 3 aC (.slice O V U) (I.set ((gt e.2.1 D).1).toNat ((gt I ((gt e.2.1 D).1)).1, ((gt I ((gt e.2.1 D).1)).2.1 ++ [((gt e.2.1 D).2.1, (gt e.2.1 D).2.2, (-1))]), (gt I ((gt e.2.1 D).1)).2.2)) bx [] := aB
    have aK := cL.grow3 (Inn.trans ir_ (Nat.le_refl _) a6) (Inn.trans (Inn.trans ir_ (Nat.le_refl _) a7) (Nat.le_refl _) bE) al.n
    refine fk_ dA (ZaE (by kernel_rfl) (ZaE (by kernel_rfl) (ZN))) ?_
    refine ZO ?_
    refine c9 _ _ ?_
    refine Z0 [0, 1, 2, 3, 4, 5, 6, 7, 8, 9, 10, 11, 12, 13, 14, 15, 16, 17, 18, 19, 20, 21, 22, 23, 24, 25] (by kernel_rfl) ?_
    refine e_' (pt_ Y 0) (e_' (pt_ Y 0) (e_' (pt_ Y 0) ?_))
    have cr := (a6.dj bd (aj.ltF.le ao))
    have bn := (b5.frS ax cr)
    refine ZcU (.slice O V U) (x := aL_ 123 (pt_ Y 0) aC) (by kernel_rfl) (bn.l_) ?_
    refine e_' (pt_ ac 1) ?_
    have cu := (a6.dj (Dj.symm be) (aG.ltF.le bk))
    have aJ := (b6.frS ax cu)
    refine ZcU (i_ ((gt e.2.1 D).2.1)) (x := aL_ 3 (pt_ ac 1) aC) (by kernel_rfl) (aJ.l_) ?_
    refine e_' (pt_ Y 0) (e_' (pt_ Y 0) (e_' (pt_ Y 0) (mr_ 123 0 (.slice O V U) bn (e_' (pt_ ac 1) (mr_ 3 1 (i_ ((gt e.2.1 D).2.1)) aJ ?_)))))
    obtain ⟨ab, dJ⟩ := Zc dI
    refine aB.mx_ 123 ab.1 ab.2 (m_' (elp (.slice O V U) 3 ((gt e.2.1 D).2.1).toNat 2) (Zv Tryz.prog 138 (elp (.slice O V U) 3 ((gt e.2.1 D).2.1).toNat 0) 2) (Nd.fldq (d := 2) aB ab.1 ab.2 (by kernel_rfl)) ?_)
    obtain ⟨eH, dY, cR, cP⟩ := Nd.at aB ab.1 ab.2
    have bR : KdS Zb 3 aC dY ((gt (I.set ((gt e.2.1 D).1).toNat ((gt I ((gt e.2.1 D).1)).1, ((gt I ((gt e.2.1 D).1)).2.1 ++ [((gt e.2.1 D).2.1, (gt e.2.1 D).2.2, (-1))]), (gt I ((gt e.2.1 D).1)).2.2)) ((gt e.2.1 D).2.1)).2.2) bx (.slice O V U) 3 ((gt e.2.1 D).2.1).toNat 2 := cP true (by simp)
    obtain ⟨cf, dq, cj, rfl⟩ := bR.sq.form
    refine m_' (.slice cf dq cj) (aL_ 75 (elp (.slice O V U) 3 ((gt e.2.1 D).2.1).toNat 2) aC) (cR _ _ _ _ (by kernel_rfl)) (e_' (pt_ ac 0) (mr_ 3 0 (i_ ((gt e.2.1 D).1)) aJ (e_' (pt_ ac 2) (mr_ 3 2 (i_ ((gt e.2.1 D).2.2)) aJ ?_))))
    obtain ⟨cI, dL⟩ := Zc dJ
    refine d_w ((gt e.2.1 D).2.2) (k := .u64) (x := (gt e.2.1 D).2.2) (by kernel_rfl) (ZdY (by have := cI; omega)) ?_
    refine e_' (.agg #[i_ ((gt e.2.1 D).1), .int .u64 ((gt e.2.1 D).2.2), i_ (-1)]) ?_
    refine Zh1 (enc := Zb) (sz := 3) ax.wf [((gt e.2.1 D).1, (gt e.2.1 D).2.2, (-1))] 1 (by decide) (fun _ _ => rfl) (fun _ _ => rfl) rfl (by kernel_rfl) fun eC ep bb am ew bK => ?_
    obtain ⟨ef, ez, ek, rfl⟩ := bK.form
    have dZ := (aB.ext am)
    have d0 := (bR.ext am)
    obtain ⟨cD, eq, aW, cU, bu, cX, cY⟩ := Nd.borrow true dZ ab.1 ab.2 (by simp) d0 rfl
    have b_ := Inn.sub' (H := bb) cX
    have a8 := Inn.sub' (H := bb) cY
    have aW : Nd Zb 3 bb (.slice O V U) (I.set ((gt e.2.1 D).1).toNat ((gt I ((gt e.2.1 D).1)).1, ((gt I ((gt e.2.1 D).1)).2.1 ++ [((gt e.2.1 D).2.1, (gt e.2.1 D).2.2, (-1))]), (gt I ((gt e.2.1 D).1)).2.2)) cD [(((gt e.2.1 D).2.1).toNat, true)] := aW
    obtain ⟨cJ, dM⟩ := Zc dL
    obtain ⟨eD, br, es, dB, ay, bL, bF⟩ := Ow.append (P := Tryz.prog) 24 am.wf cU bK.sq (fun _ _ => rfl) (at_ := #[75, 75]) rfl rfl (by kernel_rfl) (by kernel_rfl) (by decide) (by have := cJ; first | omega | (simp only [List.length_cons, List.length_nil] at this ⊢; omega) | (simp at this ⊢; omega))
    obtain ⟨cg, dr, ck, rfl⟩ := bL.form
    have cv := (aK.dj bd (aj.ltF.le ao))
    have aZ := (t_ (t_ (t_ (t_ (t_ (t_ af.n aw.n) ak.n) ad.n) al.n) ax.n) am.n)
    have cw := (a8.dj cv (aj.ltF.le aZ))
    have d2 := ((bn.ext am).frS ay cw)
    have cx := (aK.dj (Dj.symm be) (aG.ltF.le bk))
    have dt := (t_ (t_ (t_ (t_ ak.n ad.n) al.n) ax.n) am.n)
    have cy := (a8.dj cx (aG.ltF.le dt))
    have d3 := ((aJ.ext am).frS ay cy)
    refine ZgB (.slice cg dr ck) (by kernel_rfl) (dB) (ZbS (y := aL_ 3 (pt_ ac 1) br) (by kernel_rfl) (d3.l_) (ZbS (y := aL_ 123 (pt_ Y 0) br) (by kernel_rfl) (d2.l_) (ZN))) ?_
    have bo := (aW.fr ay (Dj.symm bu))
    refine bo.mx_ 123 ab.1 ab.2 (m_' (elp (.slice O V U) 3 ((gt e.2.1 D).2.1).toNat 2) (Zv Tryz.prog 138 (elp (.slice O V U) 3 ((gt e.2.1 D).2.1).toNat 0) 2) (Nd.fldq (d := 2) bo ab.1 ab.2 (by kernel_rfl)) ?_)
    have cz := (bF.dj (Dj.symm bu) aW.lt)
    obtain ⟨ca, bz, dC, cB, bj, cM⟩ := Nd.close (P := Tryz.prog) (t := 75) true ay.wf bo bL (Dj.symm cz) ab.1 ab.2 (by kernel_rfl) (by kernel_rfl) (by kernel_rfl)
    have bj : Nd Zb 3 ca (.slice O V U) ((I.set ((gt e.2.1 D).1).toNat ((gt I ((gt e.2.1 D).1)).1, ((gt I ((gt e.2.1 D).1)).2.1 ++ [((gt e.2.1 D).2.1, (gt e.2.1 D).2.2, (-1))]), (gt I ((gt e.2.1 D).1)).2.2)).set ((gt e.2.1 D).2.1).toNat ((gt (I.set ((gt e.2.1 D).1).toNat ((gt I ((gt e.2.1 D).1)).1, ((gt I ((gt e.2.1 D).1)).2.1 ++ [((gt e.2.1 D).2.1, (gt e.2.1 D).2.2, (-1))]), (gt I ((gt e.2.1 D).1)).2.2)) ((gt e.2.1 D).2.1)).1, (gt (I.set ((gt e.2.1 D).1).toNat ((gt I ((gt e.2.1 D).1)).1, ((gt I ((gt e.2.1 D).1)).2.1 ++ [((gt e.2.1 D).2.1, (gt e.2.1 D).2.2, (-1))]), (gt I ((gt e.2.1 D).1)).2.2)) ((gt e.2.1 D).2.1)).2.1, ((gt (I.set ((gt e.2.1 D).1).toNat ((gt I ((gt e.2.1 D).1)).1, ((gt I ((gt e.2.1 D).1)).2.1 ++ [((gt e.2.1 D).2.1, (gt e.2.1 D).2.2, (-1))]), (gt I ((gt e.2.1 D).1)).2.2)) ((gt e.2.1 D).2.1)).2.2 ++ [((gt e.2.1 D).1, (gt e.2.1 D).2.2, (-1))]))) bz [] := bj
    have d7 := cM.grow3 (Inn.trans ir_ (Nat.le_refl _) b_) (Inn.trans (Inn.trans ir_ (Nat.le_refl _) a8) (Nat.le_refl _) bF) ay.n
    refine fk_ dC (ZaE (by kernel_rfl) (ZaE (by kernel_rfl) (ZN))) ?_
    refine ZO ?_
    refine c7 _ _ (g_' ?_)
    obtain ⟨cK, dN⟩ := Zc dM
    refine w_' ((D + 1)) (Zs (by have := cK; omega)) (q_ (i_ (D + 1)) (Za ?_))
    obtain rfl := oi_ dN
    exact c4 dk _ _ lt_ ⟨(D + 1), ((I.set ((gt e.2.1 D).1).toNat ((gt I ((gt e.2.1 D).1)).1, ((gt I ((gt e.2.1 D).1)).2.1 ++ [((gt e.2.1 D).2.1, (gt e.2.1 D).2.2, (-1))]), (gt I ((gt e.2.1 D).1)).2.2)).set ((gt e.2.1 D).2.1).toNat ((gt (I.set ((gt e.2.1 D).1).toNat ((gt I ((gt e.2.1 D).1)).1, ((gt I ((gt e.2.1 D).1)).2.1 ++ [((gt e.2.1 D).2.1, (gt e.2.1 D).2.2, (-1))]), (gt I ((gt e.2.1 D).1)).2.2)) ((gt e.2.1 D).2.1)).1, (gt (I.set ((gt e.2.1 D).1).toNat ((gt I ((gt e.2.1 D).1)).1, ((gt I ((gt e.2.1 D).1)).2.1 ++ [((gt e.2.1 D).2.1, (gt e.2.1 D).2.2, (-1))]), (gt I ((gt e.2.1 D).1)).2.2)) ((gt e.2.1 D).2.1)).2.1, ((gt (I.set ((gt e.2.1 D).1).toNat ((gt I ((gt e.2.1 D).1)).1, ((gt I ((gt e.2.1 D).1)).2.1 ++ [((gt e.2.1 D).2.1, (gt e.2.1 D).2.2, (-1))]), (gt I ((gt e.2.1 D).1)).2.2)) ((gt e.2.1 D).2.1)).2.2 ++ [((gt e.2.1 D).1, (gt e.2.1 D).2.2, (-1))]))), bz, bM, ha_, (fs_ Z.wf (fs_ Z.wf ((fs_ Z.wf (fs_ Z.wf ((fs_ Z.wf ((fs_ Z.wf (fr_ Z.wf) af ir_).extR aw) ak (aS.fresh af.n)).extR ad) al (Inn.trans (Inn.trans ir_ (Nat.le_refl _) au) ao a7)) ax (Inn.trans (Inn.trans ir_ (Nat.le_refl _) au) ao a6)).extR am) ay (Inn.trans (Inn.trans (Inn.trans ir_ (Nat.le_refl _) au) ao aK) aZ a8)) cB (Inn.trans (Inn.trans (Inn.trans ir_ (Nat.le_refl _) au) ao aK) aZ b_)), bj, (Inn.trans (Inn.trans (Inn.trans ir_ (Nat.le_refl _) au) ao aK) aZ d7)⟩
   have dO := Zj aE aF
   refine Zaf (Zq (Zq (Zau ?_)))
   obtain rfl := oi_ dO
   obtain rfl := ZL bM
   exact dh _ _ ⟨aD, ha_, (fs_ Z.wf (fr_ Z.wf) af ir_), aX, (Inn.trans ir_ (Nat.le_refl _) au)⟩
  obtain ⟨aR, bH, bw, di, bO⟩ := hM
  obtain ⟨β, rfl⟩ := Zo bH
  clear bH
  refine df _ _ (sq_ fun db => g_' (q_ (pt_ Y 0) (q_ (pt_ Y 0) (q_ (.nilIface) (Za (db _ _ ?_))))))
  refine Zf ?_
  refine br_ [pt_ Y 0, .nilIface] ?_
  have du := (t_ ae.n an.n)
  have bT := (t_ (t_ (t_ ae.n an.n) ag.n) ah.n)
  have bv := (bh.djn ai.lt)
  have d4 := (aj.frS bw (Dj.symm bv))
  have dv := (t_ (t_ (t_ (t_ (t_ ae.n an.n) ag.n) ah.n) az.n) Z.n)
  have dw := (t_ (t_ (t_ (t_ ae.n an.n) ag.n) ah.n) az.n)
  have cA := (bO.dj (Dj.symm bv) aj.ltF)
  obtain rfl := oi_ dT
  exact (ZmB ⟨(.slice O V U), aR, Y, rfl, (fs_ ap (((fs_ ap ((fs_ ap ((f0_ ap).extR ae) an in_).extR ag) ah (aT.fresh du)).extR az).extR Z) bw (bi.fresh bT)), di, d4, (Inn.trans (bi.fresh bT) dv bO), (bh.fresh dw), cA⟩)
 have dP := Zj bg bW
 refine l_' (.bool true) (Z2 Tryz.prog .neq 38 (.tmp 14) (.const .nilIface) (.iface aI aL) .nilIface) (Z4 (by kernel_rfl)) (Za (bP _ _ ?_))
 refine wb_ true (fun _ => ?_) fun h => by cases h
 refine sq_ fun dc => g_' (q_ (.iface aI aL) (q_ (.pointer none) (q_ (.iface aI aL) (Za (dc _ _ ?_)))))
 refine Zf (Zg ?_)
 refine br_ [.pointer none, .iface aI aL] ?_
 have dx := (t_ ae.n an.n)
 obtain rfl := oi_ dP
 exact (Zmw ⟨(.iface aI aL), cE, rfl, (fs_ ap ((fs_ ap ((f0_ ap).extR ae) an in_).extR ag) ah (aT.fresh dx)), b7, (c3.fresh ae.n)⟩)
theorem ZH {H : AH} {D : Nat} {O : Value} {af : Fp} {I : List (Bool × List (Int × Int × Int) × List (Int × Int × Int))} {ac : Int} {ad : Int} {e : Int} {r : Bool}
    (ao : WF H) (V : Nd Zb 3 H O I af []) (ab : Row H D [O, i_ ac, i_ ad]) (aa : Zt I ac ad e = some r) :
    ACalls Tryz.prog 42 #[pt_ D 0, i_ e] H fun v H' => v = .bool r /\ H = H' := by
 refine ab_ Tryz.func42 ?_
 unfold Zt at aa
 refine sq_ fun k1 => g_' (q_ (.bool false) (Za (k1 _ _ (sq_ fun k2 => g_' (q_ (pt_ D 0) (q_ (.bool true) (q_ (.bool true) (q_ (i_ e) ?_))))))))
 refine sb_ (e ≥ 0) (fun Z => ?_) fun Z => ?_
 ·have ae := Zd Z aa
  refine q_ (.bool true) (q_ (.bool true) (q_ (i_ e) (q_ (pt_ D 0) (q_ (pt_ D 0) (q_ (pt_ D 0) (lr_ 123 0 (O) ab (V.ln_ 123 ?_)))))))
  refine sb_ (e < (I.length : Int)) (fun U => ?_) fun U => ?_
  ·have aj := Zd U ae
   refine q_ (.bool true) (q_ (.bool true) (q_ (pt_ D 0) (q_ (pt_ D 0) (q_ (pt_ D 0) (lr_ 123 0 (O) ab (q_ (i_ e) ?_))))))
   obtain ⟨Y, ak⟩ := Zc aj
   refine V.ix_ 123 Y U (l_' (elp O 3 e.toNat 0) (Zv Tryz.prog 138 (elp O 3 e.toNat 0) 0) (Nd.fldq (d := 0) V Y U (by kernel_rfl)) ?_)
   obtain ⟨an, am, ag, al⟩ := Nd.at V Y U
   refine l_' (.bool ((gt I e).1)) (aL_ 4 (elp O 3 e.toNat 0) H) (ag _ _ _ _ (by kernel_rfl)) (q_ (.bool (!(gt I e).1)) (q_ (.bool (!(gt I e).1)) (q_ (.bool (!(gt I e).1)) (Za (k2 _ _ ?_)))))
   refine Zf ?_
   refine br_ [.bool (!(gt I e).1)] ?_
   obtain rfl := oi_ ak
   exact ⟨rfl, rfl⟩
  have ah := Zj U ae
  refine q_ (.bool false) (q_ (.bool false) (n_' (n_' (n_' (n_' (n_' (n_' (n_' (n_' (n_' (q_ (.bool false) (q_ (.bool false) (Za (k2 _ _ ?_))))))))))))))
  refine Zf ?_
  refine br_ [.bool false] ?_
  obtain rfl := oi_ ah
  exact ⟨rfl, rfl⟩
 have ai := Zj Z aa
 refine q_ (.bool false) (q_ (.bool false) (n_' (n_' (n_' (n_' (n_' (n_' (n_' (q_ (.bool false) (q_ (.bool false) (n_' (n_' (n_' (n_' (n_' (n_' (n_' (n_' (n_' (q_ (.bool false) (q_ (.bool false) (Za (k2 _ _ ?_)))))))))))))))))))))))
 refine Zf ?_
 refine br_ [.bool false] ?_
 obtain rfl := oi_ ai
 exact ⟨rfl, rfl⟩
theorem Zhj {H : AH} {e : Nat} {U : Value} {ad : Fp} {Y : List (Bool × List (Int × Int × Int) × List (Int × Int × Int))} {Z : Int} {aa : Int} {I : Int} {r : Er}
    (aq : WF H) (af : Nd Zb 3 H U Y ad []) (ae : Row H e [U, i_ Z, i_ aa]) (V : ZcO Y Z aa I = some r) :
    ACalls Tryz.prog 49 #[pt_ e 0, i_ I] H fun v H' => ∃ (v3 : Value) (O : Fp), v = v3 /\ H = H' /\ Ev 78 116 H' v3 r O /\ Inn [] H O := by
 refine ab_ Tryz.func49 ?_
 unfold ZcO at V
 refine sq_ fun ak => g_' (q_ (.nilIface) (Za (ak _ _ (sq_ fun al => sq_ fun am => g_' (q_ (pt_ e 0) (q_ (.bool false) (Za (am _ _ ?_))))))))
 refine wb_ false (fun h => by cases h) fun _ => ?_
 refine Zi (al _ _ (sq_ fun an => sq_ fun ah => g_' (q_ (pt_ e 0) (q_ (i_ I) ?_))))
 obtain ⟨ac, ag, ab⟩ := bs_ V
 refine ck_ (ZH aq af ae ag) ?_
 rintro _ _ ⟨rfl, rfl⟩
 refine q_ (.bool (!ac)) (Za (ah _ _ ?_))
 refine wb_ ((!ac)) (fun D => ?_) fun D => ?_
 ·have ao := Zd D ab
  refine sq_ fun ai => g_' (q_ (.iface 78 (i_ 7)) (q_ (.iface 78 (i_ 7)) (Za (ai _ _ ?_))))
  refine Zf (Zg ?_)
  refine br_ [.iface 78 (i_ 7)] ?_
  obtain rfl := oi_ ao
  exact ⟨(.iface 78 (i_ 7)), [], rfl, rfl, Ev.no, in_⟩
 have ap := ZQ D ab
 refine Zi (an _ _ (sq_ fun aj => g_' (q_ (.nilIface) (Za (aj _ _ ?_)))))
 refine Zf ?_
 refine br_ [.nilIface] ?_
 obtain rfl := oi_ ap
 exact ⟨(.nilIface), [], rfl, rfl, Ev.nil, in_⟩
theorem ZdD {H : AH} {e : Int} {r : Int}
    (I : WF H) (D : Zbn e = some r) :
    ACalls Tryz.prog 75 #[i_ e] H fun v H' => v = i_ r /\ H = H' := by
 refine ab_ Tryz.func75 ?_
 unfold Zbn at D
 refine sq_ fun k1 => g_' (q_ (i_ 0) (Za (k1 _ _ (sq_ fun k2 => g_' (q_ (i_ e) (l_' (i_ (max e 0)) (Zfz Tryz.prog [i_ e, i_ 0]) (Zgu _ _) (l_' (i_ (min (max e 0) 1048576)) (Zhi Tryz.prog [i_ (max e 0), i_ 1048576]) (Zlm _ _) (q_ (i_ (min (max e 0) 1048576)) (Za (k2 _ _ ?_))))))))))
 refine Zf ?_
 refine br_ [i_ (min (max e 0) 1048576)] ?_
 obtain rfl := oi_ D
 exact ⟨rfl, rfl⟩
theorem Zgp {H : AH} {e : Int} {D : Int} {U : Int} {I : Int} {O : Int} {r : Int × Int}
    (ab : WF H) (aa : Zch e D U I O = some r) :
    ACalls Tryz.prog 50 #[.agg #[i_ e, i_ D, i_ U, i_ I, i_ O]] H fun v H' => v = .tuple #[i_ r.1, i_ r.2] /\ FrS [] H H' := by
 refine ab_ Tryz.func50 ?_
 unfold Zch at aa
 refine sq_ fun k1 => g_' ?_
 refine rl_ ab [i_ e, i_ D, i_ U, i_ I, i_ O] fun b2 Z V ak Y => ?_
 refine q_ (i_ 0) (q_ (i_ 0) (Za (k1 _ _ (sq_ fun ag => g_' (q_ (.func (.func 75) #[] #[]) (Za (ag _ _ (sq_ fun ah => ?_))))))))
 refine Z0 [0, 1, 2, 4, 5, 6, 3, 7, 8, 9] (by kernel_rfl) ?_
 refine e_' (.func (.func 75) #[] #[]) (e_' (pt_ b2 0) (mr_ 3 0 (i_ e) Y (e_' (.func (.func 75) #[] #[]) (e_' (pt_ b2 1) ?_))))
 refine ZcU (i_ D) (x := aL_ 3 (pt_ b2 1) Z) (by kernel_rfl) (Y.l_) ?_
 obtain ⟨ac, ae, ai⟩ := bs_ aa
 refine dk_ (ZdD V.wf ae) ?_
 rintro _ _ ⟨rfl, rfl⟩
 refine ⟨ZbS (y := aL_ 3 (pt_ b2 1) Z) (by kernel_rfl) (Y.l_) (ZN), ?_⟩
 obtain ⟨ad, af, aj⟩ := bs_ ai
 refine dk_ (ZdD V.wf af) ?_
 rintro _ _ ⟨rfl, rfl⟩
 refine ⟨ZaE (by kernel_rfl) (ZN), ?_⟩
 refine e_' (i_ ac) (e_' (i_ ad) ?_)
 refine ZO ?_
 refine ah _ _ ?_
 refine Zf ?_
 refine br_ [i_ ac, i_ ad] ?_
 obtain rfl := oi_ aj
 exact ⟨rfl, ((f0_ ab).extR V)⟩
theorem ZeQ {H : AH} {V : Value} {ai : Fp} {s : List (Int × Int × Int)} {r : List (Int × Int × Int)}
    (U : WF H) (aa : Sq Zb 3 H V s ai) (Y : ZbG s = some r) :
    ACalls Tryz.prog 57 #[V] H fun v H' => ∃ (af : Value) (Z : Fp), v = af /\ FrS [] H H' /\ Ow Zb 3 H' af r Z /\ Inn [] H Z := by
 refine ab_ Tryz.func57 ?_
 unfold ZbG at Y
 refine sq_ fun an => g_' (q_ (.slice none 0 0) (Za (an _ _ (sq_ fun ao => sq_ fun ae => g_' (q_ (V) ?_)))))
 rcases Sq.nilOr aa with ⟨rfl, rfl⟩ | ⟨a9, ap, ag, rfl⟩
 ·refine q_ (.bool true) (Za (ae _ _ ?_))
  refine wb_ true (fun _ => ?_) fun h => by cases h
  refine sq_ fun al => g_' (q_ (.slice none 0 0) (Za (al _ _ ?_)))
  refine Zf (Zg ?_)
  refine br_ [.slice none 0 0] ?_
  have hn_ : some ([] : List (Int × Int × Int)) = some r := by simpa [G] using Y
  obtain rfl := oi_ hn_
  exact ⟨(.slice none 0 0), [], rfl, (f0_ U), (Ow.nil (by decide)), in_⟩
 refine q_ (.bool false) (Za (ae _ _ ?_))
 refine wb_ false (fun h => by cases h) fun _ => ?_
 refine Zi (ao _ _ (sq_ fun am => g_' ?_))
 refine Zcz (enc := Zb) (sz := 3) U ([] : List (Int × Int × Int)) 0 (by decide) (fun _ _ => rfl) (fun _ _ => rfl) rfl (by kernel_rfl) fun aA f15 av I ab ac => ?_
 obtain ⟨ax, az, ay, rfl⟩ := ac.form
 refine q_ (.slice (some a9) ap ag) ?_
 obtain ⟨aj, ar⟩ := Zc Y
 have au := (aa.ext I)
 obtain ⟨aB, aw, f28, aq, ah, ad, ak⟩ := Ow.append (P := Tryz.prog) 24 I.wf ac au (fun _ _ => rfl) (at_ := #[75, 75]) rfl rfl (by kernel_rfl) (by kernel_rfl) (by decide) (by have := aj; first | omega | (simp only [List.length_cons, List.length_nil] at this ⊢; omega) | (simp at this ⊢; omega))
 obtain ⟨e, O, D, rfl⟩ := ad.form
 refine ZcJ (.slice e O D) (by kernel_rfl) (aq) ?_
 refine q_ (.slice e O D) (Za (am _ _ ?_))
 refine Zf ?_
 refine br_ [.slice e O D] ?_
 obtain rfl := oi_ ar
 exact ⟨(.slice e O D), f28, rfl, (fs_ U ((f0_ U).extR I) ah (ab.fresh (Nat.le_refl _))), ad, (Inn.trans (ab.fresh (Nat.le_refl _)) I.n ak)⟩
theorem Zbq {H : AH} {I : Nat} {D : Value} {ae : Fp} {ac : List (Bool × List (Int × Int × Int) × List (Int × Int × Int))} {aj : Int} {ak : Int} {e : Int} {r : List (Int × Int × Int)}
    (U : WF H) (V : Nd Zb 3 H D ac ae []) (af : Row H I [D, i_ aj, i_ ak]) (ag : ZV ac aj ak e = some r) :
    ACalls Tryz.prog 29 #[pt_ I 0, i_ e] H fun v H' => ∃ (am : Value) (ad : Fp), v = am /\ FrS [] H H' /\ Ow Zb 3 H' am r ad /\ Inn [] H ad := by
 refine ab_ Tryz.func29 ?_
 unfold ZV at ag
 refine sq_ fun aB => g_' (q_ (.slice none 0 0) (Za (aB _ _ (sq_ fun aC => sq_ fun aD => g_' (q_ (pt_ I 0) (q_ (i_ e) ?_))))))
 obtain ⟨an, aw, al⟩ := bs_ ag
 refine ck_ (ZH U V af aw) ?_
 rintro _ _ ⟨rfl, rfl⟩
 refine q_ (.bool (!an)) (Za (aD _ _ ?_))
 refine wb_ ((!an)) (fun aa => ?_) fun aa => ?_
 ·have aF := Zd aa al
  refine sq_ fun az => g_' (q_ (.slice none 0 0) (Za (az _ _ ?_)))
  refine Zf (Zg ?_)
  refine br_ [.slice none 0 0] ?_
  obtain rfl := oi_ aF
  exact ⟨(.slice none 0 0), [], rfl, (f0_ U), (Ow.nil (by decide)), in_⟩
 have aG := ZQ aa al
 refine Zi (aC _ _ (sq_ fun aA => g_' (q_ (pt_ I 0) (q_ (pt_ I 0) (q_ (pt_ I 0) (lr_ 123 0 (D) af (q_ (i_ e) ?_)))))))
 obtain ⟨O, aH⟩ := Zc aG
 refine V.ix_ 123 O.1 O.2 (l_' (elp D 3 e.toNat 1) (Zv Tryz.prog 138 (elp D 3 e.toNat 0) 1) (Nd.fldq (d := 1) V O.1 O.2 (by kernel_rfl)) ?_)
 obtain ⟨aJ, aM, av, au⟩ := Nd.at V O.1 O.2
 have ah : KdS Zb 3 H aJ ((gt ac e).2.1) ae D 3 e.toNat 1 := au false (by simp)
 obtain ⟨ao, aE, ap, rfl⟩ := ah.sq.form
 refine l_' (.slice ao aE ap) (aL_ 75 (elp D 3 e.toNat 1) H) (av _ _ _ _ (by kernel_rfl)) ?_
 obtain ⟨aN, ax, aI⟩ := bs_ aH
 refine ck_ (ZeQ U ah.sq ax) ?_
 rintro aL aK ⟨_, ar, rfl, aq, ai, ay⟩
 obtain ⟨Y, ab, Z, rfl⟩ := ai.form
 refine q_ (.slice Y ab Z) (Za (aA _ _ ?_))
 refine Zf ?_
 refine br_ [.slice Y ab Z] ?_
 obtain rfl := oi_ aI
 exact ⟨(.slice Y ab Z), ar, rfl, (fs_ U (f0_ U) aq in_), ai, (ay.fresh (Nat.le_refl _))⟩
theorem Zdj {H : AH} {I : Nat} {D : Value} {ae : Fp} {ac : List (Bool × List (Int × Int × Int) × List (Int × Int × Int))} {aj : Int} {ak : Int} {e : Int} {r : List (Int × Int × Int)}
    (U : WF H) (V : Nd Zb 3 H D ac ae []) (af : Row H I [D, i_ aj, i_ ak]) (ag : Zat ac aj ak e = some r) :
    ACalls Tryz.prog 51 #[pt_ I 0, i_ e] H fun v H' => ∃ (am : Value) (ad : Fp), v = am /\ FrS [] H H' /\ Ow Zb 3 H' am r ad /\ Inn [] H ad := by
 refine ab_ Tryz.func51 ?_
 unfold Zat at ag
 refine sq_ fun aB => g_' (q_ (.slice none 0 0) (Za (aB _ _ (sq_ fun aC => sq_ fun aD => g_' (q_ (pt_ I 0) (q_ (i_ e) ?_))))))
 obtain ⟨an, aw, al⟩ := bs_ ag
 refine ck_ (ZH U V af aw) ?_
 rintro _ _ ⟨rfl, rfl⟩
 refine q_ (.bool (!an)) (Za (aD _ _ ?_))
 refine wb_ ((!an)) (fun aa => ?_) fun aa => ?_
 ·have aF := Zd aa al
  refine sq_ fun az => g_' (q_ (.slice none 0 0) (Za (az _ _ ?_)))
  refine Zf (Zg ?_)
  refine br_ [.slice none 0 0] ?_
  obtain rfl := oi_ aF
  exact ⟨(.slice none 0 0), [], rfl, (f0_ U), (Ow.nil (by decide)), in_⟩
 have aG := ZQ aa al
 refine Zi (aC _ _ (sq_ fun aA => g_' (q_ (pt_ I 0) (q_ (pt_ I 0) (q_ (pt_ I 0) (lr_ 123 0 (D) af (q_ (i_ e) ?_)))))))
 obtain ⟨O, aH⟩ := Zc aG
 refine V.ix_ 123 O.1 O.2 (l_' (elp D 3 e.toNat 2) (Zv Tryz.prog 138 (elp D 3 e.toNat 0) 2) (Nd.fldq (d := 2) V O.1 O.2 (by kernel_rfl)) ?_)
 obtain ⟨aM, aJ, av, au⟩ := Nd.at V O.1 O.2
 have ah : KdS Zb 3 H aJ ((gt ac e).2.2) ae D 3 e.toNat 2 := au true (by simp)
 obtain ⟨ao, aE, ap, rfl⟩ := ah.sq.form
 refine l_' (.slice ao aE ap) (aL_ 75 (elp D 3 e.toNat 2) H) (av _ _ _ _ (by kernel_rfl)) ?_
 obtain ⟨aN, ax, aI⟩ := bs_ aH
 refine ck_ (ZeQ U ah.sq ax) ?_
 rintro aL aK ⟨_, ar, rfl, aq, ai, ay⟩
 obtain ⟨Y, ab, Z, rfl⟩ := ai.form
 refine q_ (.slice Y ab Z) (Za (aA _ _ ?_))
 refine Zf ?_
 refine br_ [.slice Y ab Z] ?_
 obtain rfl := oi_ aI
 exact ⟨(.slice Y ab Z), ar, rfl, (fs_ U (f0_ U) aq in_), ai, (ay.fresh (Nat.le_refl _))⟩
theorem Ze1 {H : AH} {e : Nat} {V : Nat} {al : Value} {az : Fp} {ah : Value} {aa : Fp} {Y : Nat} {aq : List (Bool × List (Int × Int × Int) × List (Int × Int × Int))} {ar : Int} {au : Int} {ac : Int} {ad : Int} {av : List (Int × Int)} {aw : Int -> Option (Int × Int × Int)} {I : Int} {O : Int} {r : List (Int × Int)}
    (ae : WF H) (aQ : Nd Zb 3 H al aq az []) (aP : Row H V [al, i_ ar, i_ au]) (aB : Ow Zm 2 H ah av aa) (aR : Ms .i64 Zz H Y aw) (ag : Row H e [pt_ V 0, i_ ac, i_ ad, ah, .map (some Y)]) (ai : Dj aa [e]) (ap : ZbB aq ar au ac ad av aw I O = some r) :
    ACalls Tryz.prog 156 #[pt_ e 3, .iface 186 (.agg #[.int .u64 I, i_ O])] H fun v H' => ∃ (ax : Value) (ak : Fp), v = .tuple #[] /\ FrS ([e] ++ aa) H H' /\ Ow Zm 2 H' ax r ak /\ Row H' e [pt_ V 0, i_ ac, i_ ad, ax, .map (some Y)] /\ Inn aa H ak := by
 refine ab_ Tryz.func156 ?_
 unfold ZbB at ap
 refine Z0 [0, 1, 2, 3, 4, 5, 6, 7, 8, 9] (by kernel_rfl) ?_
 refine e_' (pt_ e 3) (e_' (pt_ e 3) (e_' (pt_ e 3) (mr_ 105 3 (ah) ag (e_' (.iface 186 (.agg #[.int .u64 I, i_ O])) (e_' (.agg #[.int .u64 I, i_ O]) ?_)))))
 refine Zh1 (enc := Zm) (sz := 2) ae [(I, O)] 1 (by decide) (fun _ _ => rfl) (fun _ _ => rfl) rfl (by kernel_rfl) fun aV aO aJ D aS an => ?_
 obtain ⟨aM, aT, aN, rfl⟩ := an.form
 have aG := (aB.ext D)
 obtain ⟨aA, aE⟩ := Zc ap
 obtain ⟨aU, aK, f23, aC, af, ao, am⟩ := Ow.append (P := Tryz.prog) 16 D.wf aG an.sq (fun _ _ => rfl) (at_ := #[105, 105]) rfl rfl (by kernel_rfl) (by kernel_rfl) (by decide) (by have := aA; first | omega | (simp only [List.length_cons, List.length_nil] at this ⊢; omega) | (simp at this ⊢; omega))
 obtain ⟨U, ab, Z, rfl⟩ := ao.form
 refine ZgB (.slice U ab Z) (by kernel_rfl) (aC) (ZN) ?_
 refine e_' (pt_ e 3) ?_
 have aH := ((ag.ext D).frS af ai)
 obtain ⟨aL, aD, aj, aF⟩ := rb_ 105 3 af.wf aH (.slice U ab Z) [pt_ V 0, i_ ac, i_ ad, .slice U ab Z, .map (some Y)]
 refine fk_ aD (ZN) ?_
 refine ZO ?_
 refine Zek (vs := []) (rfl) ?_
 have ay := (am.dj ai (ag.ltF.le D.n))
 have aI := (ao.fr aj (Dj.symm ay))
 obtain rfl := oi_ aE
 exact ⟨(.slice U ab Z), f23, rfl, (fs_ ae (fs_ ae ((fr_ ae).extR D) af (Inn.right ir_)) aj Inn.left), aI, aF, (Inn.trans ir_ D.n am)⟩
theorem Zdl {H : AH} {e : Value} {I : Fp} {q : List (Int × Int)} {r : Int}
    (U : WF H) (O : Sq Zm 2 H e q I) (D : ZaA q = some r) :
    ACalls Tryz.prog 146 #[e] H fun v H' => v = i_ r /\ H = H' := by
 refine ab_ Tryz.func146 ?_
 unfold ZaA at D
 refine sq_ fun k1 => g_' (q_ (i_ 0) (Za (k1 _ _ (sq_ fun k2 => g_' (q_ (e) (O.ln_ 105 (q_ (i_ (q.length : Int)) (Za (k2 _ _ ?_)))))))))
 refine Zf ?_
 refine br_ [i_ (q.length : Int)] ?_
 obtain rfl := oi_ D
 exact ⟨rfl, rfl⟩
theorem Zci {H : AH} {e : Value} {ab : Fp} {q : List (Int × Int)} {i : Int} {j : Int} {r : Bool}
    (ag : WF H) (O : Sq Zm 2 H e q ab) (Y : Z7 q i j = some r) :
    ACalls Tryz.prog 147 #[e, i_ i, i_ j] H fun v H' => v = .bool r /\ H = H' := by
 refine ab_ Tryz.func147 ?_
 unfold Z7 at Y
 refine sq_ fun k1 => g_' (q_ (.bool false) (Za (k1 _ _ (sq_ fun k2 => ?_))))
 refine Z0 [0, 1, 2, 3, 4, 5, 6, 7, 8, 9, 10, 11, 12, 13, 14, 15, 16, 17, 18, 19, 20, 21, 22, 23, 24, 25, 26, 27, 28, 29, 30, 31, 32, 33, 34, 35, 36, 37] (by kernel_rfl) ?_
 refine e_' (e) (e_' (i_ i) ?_)
 obtain ⟨D, ae⟩ := Zc Y
 refine O.mx_ 105 D.1 D.2 (m_' (elp e 2 i.toNat 0) (Zv Tryz.prog 186 (elp e 2 i.toNat 0) 0) (Sq.fldq (d := 0) O D.1 D.2 (by kernel_rfl)) (me_ 27 0 (.int .u64 ((gt q i).1)) O D.1 D.2 (e_' (e) (e_' (i_ j) ?_))))
 obtain ⟨I, Z⟩ := Zc ae
 refine O.mx_ 105 I.1 I.2 (m_' (elp e 2 j.toNat 0) (Zv Tryz.prog 186 (elp e 2 j.toNat 0) 0) (Sq.fldq (d := 0) O I.1 I.2 (by kernel_rfl)) (me_ 27 0 (.int .u64 ((gt q j).1)) O I.1 I.2 ?_))
 refine db_ (((gt q i).1) < ((gt q j).1)) (fun V => ?_) fun V => ?_
 ·have af := Zd V Z
  refine e_' (.bool true) (j_' (j_' (j_' (j_' (j_' (j_' (j_' (j_' (j_' (j_' (j_' (j_' (j_' (j_' (j_' (j_' (j_' (j_' (j_' (j_' (j_' (j_' (j_' (j_' (e_' (.bool true) (e_' (.bool true) ?_))))))))))))))))))))))))))
  refine ZO ?_
  refine k2 _ _ ?_
  refine Zf ?_
  refine br_ [.bool true] ?_
  obtain rfl := oi_ af
  exact ⟨rfl, rfl⟩
 have aa := Zj V Z
 refine e_' (.bool false) (e_' (e) (e_' (i_ i) (O.mx_ 105 D.1 D.2 (m_' (elp e 2 i.toNat 0) (Zv Tryz.prog 186 (elp e 2 i.toNat 0) 0) (Sq.fldq (d := 0) O D.1 D.2 (by kernel_rfl)) (me_ 27 0 (.int .u64 ((gt q i).1)) O D.1 D.2 (e_' (e) (e_' (i_ j) (O.mx_ 105 I.1 I.2 (m_' (elp e 2 j.toNat 0) (Zv Tryz.prog 186 (elp e 2 j.toNat 0) 0) (Sq.fldq (d := 0) O I.1 I.2 (by kernel_rfl)) (me_ 27 0 (.int .u64 ((gt q j).1)) O I.1 I.2 ?_))))))))))
 refine db_ (((gt q i).1) = ((gt q j).1)) (fun U => ?_) fun U => ?_
 ·have ac := Zd U aa
  refine e_' (.bool true) (e_' (e) (e_' (i_ i) (O.mx_ 105 D.1 D.2 (m_' (elp e 2 i.toNat 1) (Zv Tryz.prog 186 (elp e 2 i.toNat 0) 1) (Sq.fldq (d := 1) O D.1 D.2 (by kernel_rfl)) (me_ 3 1 (i_ ((gt q i).2)) O D.1 D.2 (e_' (e) (e_' (i_ j) (O.mx_ 105 I.1 I.2 (m_' (elp e 2 j.toNat 1) (Zv Tryz.prog 186 (elp e 2 j.toNat 0) 1) (Sq.fldq (d := 1) O I.1 I.2 (by kernel_rfl)) (me_ 3 1 (i_ ((gt q j).2)) O I.1 I.2 (e_' (.bool (decide (((gt q i).2) < ((gt q j).2)))) (e_' (.bool (decide (((gt q i).2) < ((gt q j).2)))) (e_' (.bool (decide (((gt q i).2) < ((gt q j).2)))) (e_' (.bool (decide (((gt q i).2) < ((gt q j).2)))) ?_))))))))))))))
  refine ZO ?_
  refine k2 _ _ ?_
  refine Zf ?_
  refine br_ [.bool (decide (((gt q i).2) < ((gt q j).2)))] ?_
  obtain rfl := oi_ ac
  exact ⟨rfl, rfl⟩
 have ad := Zj U aa
 refine e_' (.bool false) (j_' (j_' (j_' (j_' (j_' (j_' (j_' (j_' (j_' (j_' (j_' (e_' (.bool false) (e_' (.bool false) (e_' (.bool false) ?_))))))))))))))
 refine ZO ?_
 refine k2 _ _ ?_
 refine Zf ?_
 refine br_ [.bool false] ?_
 obtain rfl := oi_ ad
 exact ⟨rfl, rfl⟩
theorem Zcg {H : AH} {D : Value} {V : Fp} {q : List (Int × Int)} {i : Int} {j : Int} {r : List (Int × Int)}
    (U : WF H) (O : Ow Zm 2 H D q V) (ab : Z5 q i j = some r) :
    ACalls Tryz.prog 148 #[D, i_ i, i_ j] H fun v H' => v = .tuple #[] /\ FrS V H H' /\ Ow Zm 2 H' D r V := by
 refine ab_ Tryz.func148 ?_
 unfold Z5 at ab
 refine Z0 [0, 1, 2, 3, 4, 5, 6, 7, 8, 9, 10, 11, 12, 13, 14, 15] (by kernel_rfl) ?_
 refine e_' (D) (e_' (i_ i) (e_' (D) (e_' (i_ j) (e_' (D) (e_' (i_ j) ?_)))))
 obtain ⟨I, ah⟩ := Zc ab
 refine O.sq.mx_ 105 I.1 I.2 (me_ 186 0 (.agg #[.int .u64 ((gt q j).1), i_ ((gt q j).2)]) O.sq I.1 I.2 (e_' (D) (e_' (i_ i) ?_)))
 obtain ⟨e, ai⟩ := Zc ah
 refine O.sq.mx_ 105 e.1 e.2 (me_ 186 0 (.agg #[.int .u64 ((gt q i).1), i_ ((gt q i).2)]) O.sq e.1 e.2 (O.sq.mx_ 105 e.1 e.2 ?_))
 obtain ⟨ak, af, Y, aa⟩ := Ow.store (P := Tryz.prog) (t := 186) (off := 0) U O e.1 e.2 (.agg #[.int .u64 ((gt q j).1), i_ ((gt q j).2)]) [.int .u64 ((gt q j).1), i_ ((gt q j).2)] (by kernel_rfl) (by kernel_rfl) rfl ((gt q j).1, (gt q j).2) (Nat.le_of_ble_eq_true rfl) (by kernel_rfl)
 refine fk_ af (ZN) ?_
 obtain ⟨Z, ag⟩ := Zc ai
 refine aa.sq.mx_ 105 I.1 Z ?_
 obtain ⟨aj, ae, ac, ad⟩ := Ow.store (P := Tryz.prog) (t := 186) (off := 0) Y.wf aa I.1 Z (.agg #[.int .u64 ((gt q i).1), i_ ((gt q i).2)]) [.int .u64 ((gt q i).1), i_ ((gt q i).2)] (by kernel_rfl) (by kernel_rfl) rfl ((gt q i).1, (gt q i).2) (Nat.le_of_ble_eq_true rfl) (by kernel_rfl)
 refine fk_ ae (ZN) ?_
 refine ZO ?_
 refine Zek (vs := []) (rfl) ?_
 obtain rfl := oi_ ag
 exact ⟨rfl, (fs_ U (fs_ U (fr_ U) Y ir_) ac ir_), ad⟩
theorem Zfi {H : AH} {D : Nat} {ah : Nat} {ar : Value} {aI : Fp} {I : Value} {O : Fp} {ai : Nat} {ak : List (Bool × List (Int × Int × Int) × List (Int × Int × Int))} {al : Int} {am : Int} {an : Int} {ao : Int} {ae : List (Int × Int)} {ap : Int -> Option (Int × Int × Int)} {j : Int} {r : List (Int × Int)}
    (U : WF H) (bk : Nd Zb 3 H ar ak aI []) (bj : Row H ah [ar, i_ al, i_ am]) (aL : Ow Zm 2 H I ae O) (bl : Ms .i64 Zz H ai ap) (aq : Row H D [pt_ ah 0, i_ an, i_ ao, I, .map (some ai)]) (aj : Dj O [D]) (ay : Zbb ak al am an ao ae ap j = some r) :
    ACalls Tryz.prog 104 #[.iface 184 (pt_ D 3), i_ j] H fun v H' => v = .tuple #[] /\ FrS O H H' /\ Ow Zm 2 H' I r O := by
 refine ab_ Tryz.func104 ?_
 unfold Zbb at ay
 obtain ⟨aC, aO, ba⟩ := bs_ ay
 refine ZP (fun α ab => Has α [] /\ FrS O H ab /\ Ow Zm 2 ab I aC O) (fun _ aR => ?_) (fun α ab hM => ?_)
 ·refine Zr ?_
  obtain ⟨aB, aN⟩ := ZC.1 aO
  refine Z9 (fun n α Y => ∃ (Z : List (Int × Int)), ∃ (e : Int), ZT (fun zz_ => ZaC zz_.1 zz_.2) n (Z, e) = some aC /\ Has α [(0, .iface 184 (pt_ D 3)), (1, i_ e)] /\ FrS O H Y /\ Ow Zm 2 Y I Z O) aB ⟨ae, j, aN, ha_, (fr_ U), aL⟩ ?_
  rintro aB α Y ⟨Z, e, aM, av, V, af⟩ bi aS
  obtain ⟨aZ, bg, rfl, aa, ax⟩ := ZJ aM
  obtain ⟨β, rfl⟩ := Zo av
  clear av
  replace aa : ZaC Z e = some bg := aa
  unfold ZaC at aa
  refine Zr (sq_ fun aT => g_' (q_ (i_ e) ?_))
  obtain ⟨aJ, a1⟩ := Zc aa
  refine w_' ((e - 1)) (Zs aJ) ?_
  obtain ⟨aK, a2⟩ := Zc a1
  refine w_' ((Int.tdiv (e - 1) 2)) (Zs aK) (q_ (i_ (Int.tdiv (e - 1) 2)) (Za (aT _ _ (sq_ fun aU => sq_ fun aV => ?_))))
  obtain ⟨aD, az, aE⟩ := bs_ a2
  refine ZP (fun α ag => Has α [(0, .iface 184 (pt_ D 3)), (1, i_ e), (4, i_ (Int.tdiv (e - 1) 2)), (17, .bool aD)] /\ Y = ag) (fun _ aA => ?_) (fun α ag hM => ?_)
  ·refine g_' (q_ (i_ (Int.tdiv (e - 1) 2)) (q_ (i_ e) ?_))
   refine sb_ ((Int.tdiv (e - 1) 2) = e) (fun ac => ?_) fun ac => ?_
   ·have a6 := Zd ac az
    refine q_ (.bool true) (n_' (n_' (n_' (n_' (n_' (q_ (.bool true) (Za ?_)))))))
    obtain rfl := oi_ a6
    exact aA _ _ ⟨ha_, rfl⟩
   have a7 := Zj ac az
   refine q_ (.bool false) (q_ (.iface 184 (pt_ D 3)) (q_ (i_ e) (q_ (i_ (Int.tdiv (e - 1) 2)) ?_)))
   obtain ⟨aF, aP, a8⟩ := bs_ a7
   have bd := (aq.frS V aj)
   refine ZfL 147 105 ⟨D, 3, none⟩ #[i_ e, i_ (Int.tdiv (e - 1) 2)] (I) #[I, i_ e, i_ (Int.tdiv (e - 1) 2)] (by kernel_rfl) (by kernel_rfl) (bd.l_) (Zci V.wf af.sq aP) ?_
   rintro _ _ ⟨rfl, rfl⟩
   refine q_ (.bool (!aF)) (q_ (.bool (!aF)) (Za ?_))
   obtain rfl := oi_ a8
   exact aA _ _ ⟨ha_, rfl⟩
  obtain ⟨aw, rfl⟩ := hM
  obtain ⟨β, rfl⟩ := Zo aw
  clear aw
  refine aV _ _ ?_
  refine wb_ (aD) (fun ad => ?_) fun ad => ?_
  ·have a_ := Zd ad aE
   refine Zaf (Zq (Zj3 (by decide) (Zq (Zau ?_))))
   obtain rfl := oi_ a_
   obtain rfl := ZL ax
   exact aR _ _ ⟨trivial, (fs_ U (fr_ U) V ir_), af⟩
  have bb := ZQ ad aE
  refine Zi (aU _ _ (sq_ fun aW => g_' (q_ (.iface 184 (pt_ D 3)) (q_ (i_ (Int.tdiv (e - 1) 2)) (q_ (i_ e) ?_)))))
  obtain ⟨bf, aQ, bc⟩ := bs_ bb
  have be := (aq.frS V aj)
  refine ZfL 148 105 ⟨D, 3, none⟩ #[i_ (Int.tdiv (e - 1) 2), i_ e] (I) #[I, i_ (Int.tdiv (e - 1) 2), i_ e] (by kernel_rfl) (by kernel_rfl) (be.l_) (Zcg V.wf af aQ) ?_
  rintro _ bh ⟨rfl, aG, aX⟩
  refine Za (aW _ _ (g_' (q_ (i_ (Int.tdiv (e - 1) 2)) (q_ (i_ (Int.tdiv (e - 1) 2)) (Za ?_)))))
  obtain rfl := oi_ bc
  exact aS aZ _ _ lt_ ⟨bf, (Int.tdiv (e - 1) 2), ax, ha_, (fs_ U (fs_ U (fr_ U) V ir_) aG ir_), aX⟩
 obtain ⟨au, aH, aY⟩ := hM
 obtain ⟨β, rfl⟩ := Zo au
 clear au
 refine Zek (vs := []) (rfl) ?_
 obtain rfl := oi_ ba
 exact ⟨rfl, (fs_ U (fr_ U) aH ir_), aY⟩
theorem Zex {H : AH} {e : Nat} {O : Nat} {ay : Value} {ab : Fp} {az : Value} {D : Fp} {U : Nat} {an : List (Bool × List (Int × Int × Int) × List (Int × Int × Int))} {ao : Int} {ap : Int} {ac : Int} {ad : Int} {aq : List (Int × Int)} {ar : Int -> Option (Int × Int × Int)} {aa : Int} {ai : Int} {r : List (Int × Int)}
    (V : WF H) (aw : Nd Zb 3 H ay an ab []) (av : Row H O [ay, i_ ao, i_ ap]) (aK : Ow Zm 2 H az aq D) (ax : Ms .i64 Zz H U ar) (au : Row H e [pt_ O 0, i_ ac, i_ ad, az, .map (some U)]) (ak : Dj D [e]) (aH : Dj D ab) (aE : Dj [e] ab) (aF : Dj D [O]) (aC : Dj [e] [O]) (aG : Dj D [U]) (aD : Dj [e] [U]) (aA : ZaS an ao ap ac ad aq ar aa ai = some r) :
    ACalls Tryz.prog 88 #[.iface 184 (pt_ e 3), .iface 186 (.agg #[.int .u64 aa, i_ ai])] H fun v H' => ∃ (aB : Value) (am : Fp), v = .tuple #[] /\ FrS ([e] ++ D) H H' /\ Ow Zm 2 H' aB r am /\ Row H' e [pt_ O 0, i_ ac, i_ ad, aB, .map (some U)] /\ Inn D H am := by
 refine ab_ Tryz.func88 ?_
 unfold ZaS at aA
 refine sq_ fun aO => g_' (q_ (.iface 184 (pt_ e 3)) (q_ (.iface 186 (.agg #[.int .u64 aa, i_ ai])) ?_))
 obtain ⟨a7, aL, aQ⟩ := bs_ aA
 refine ck_ (Ze1 V aw av aK ax au ak aL) ?_
 rintro _ aZ ⟨a2, aI, rfl, I, af, ag, ae⟩
 obtain ⟨Y, ah, Z, rfl⟩ := af.form
 refine Za (aO _ _ (g_' (q_ (.iface 184 (pt_ e 3)) (q_ (.iface 184 (pt_ e 3)) ?_))))
 obtain ⟨aY, aM, aR⟩ := bs_ aQ
 refine ZfL 146 105 ⟨e, 3, none⟩ #[] (.slice Y ah Z) #[.slice Y ah Z] (by kernel_rfl) (by kernel_rfl) (ag.l_) (Zdl I.wf af.sq aM) ?_
 rintro _ _ ⟨rfl, rfl⟩
 obtain ⟨aJ, aS⟩ := Zc aR
 refine w_' ((aY - 1)) (Zs aJ) ?_
 have aU := (aw.fr I (Dj.app aE aH))
 have aV := (av.frS I (Dj.app aC aF))
 have aW := (ax.frS I (Dj.app aD aG))
 have aj := (ae.dj ak au.ltF)
 obtain ⟨a6, aN, aT⟩ := bs_ aS
 refine ck_ (Zfi I.wf aU aV af aW ag aj aN) ?_
 rintro _ a1 ⟨rfl, al, aP⟩
 refine Za ?_
 refine Zek (vs := []) (rfl) ?_
 have aX := (ag.frS al aj)
 obtain rfl := oi_ aT
 exact ⟨(.slice Y ah Z), aI, rfl, (fs_ V (fs_ V (fr_ V) I ir_) al (Inn.trans (Inn.right ir_) (Nat.le_refl _) ae)), aP, aX, (Inn.trans ir_ (Nat.le_refl _) ae)⟩
theorem ZdH {H : AH} {e : Nat} {Z : Nat} {aj : Value} {ab : Fp} {ak : Value} {V : Fp} {D : Nat} {aq : List (Bool × List (Int × Int × Int) × List (Int × Int × Int))} {ar : Int} {au : Int} {af : Int} {ag : Int} {av : List (Int × Int)} {aw : Int -> Option (Int × Int × Int)} {Y : Int} {I : Int} {hops : Int} {aa : Int} {r : (Int -> Option (Int × Int × Int)) × List (Int × Int)}
    (ac : WF H) (aN : Nd Zb 3 H aj aq ab []) (aM : Row H Z [aj, i_ ar, i_ au]) (aO : Ow Zm 2 H ak av V) (ai : Ms .i64 Zz H D aw) (aL : Row H e [pt_ Z 0, i_ af, i_ ag, ak, .map (some D)]) (aD : Dj [D] ab) (aC : Dj [D] [Z]) (ae : Dj [D] V) (ad : Dj [D] [e]) (aG : Dj V [e]) (aI : Dj V ab) (aF : Dj [e] ab) (aH : Dj V [Z]) (aE : Dj [e] [Z]) (al : ZaK aq ar au af ag av aw Y I hops aa = some r) :
    ACalls Tryz.prog 64 #[pt_ e 0, i_ Y, .agg #[.int .u64 I, i_ hops, i_ aa]] H fun v H' => ∃ (ap : Value) (f6 : Fp), v = .tuple #[] /\ FrS ([e] ++ ([D] ++ V)) H H' /\ Ms .i64 Zz H' D r.1 /\ Ow Zm 2 H' ap r.2 f6 /\ Row H' e [pt_ Z 0, i_ af, i_ ag, ap, .map (some D)] /\ Inn V H f6 := by
 refine ab_ Tryz.func64 ?_
 unfold ZaK at al
 refine sq_ fun aS => g_' ?_
 refine rl_ ac [.int .u64 I, i_ hops, i_ aa] fun az ba O aP ao => ?_
 refine Za (aS _ _ (sq_ fun aT => ?_))
 refine Z0 [0, 1, 2, 3, 4, 5, 6] (by kernel_rfl) ?_
 refine e_' (pt_ e 0) (e_' (pt_ e 0) (e_' (pt_ e 4) ?_))
 have ax := (aL.ext O)
 refine mr_ 103 4 (.map (some D)) ax (e_' (i_ Y) (mr_ 110 0 (.agg #[.int .u64 I, i_ hops, i_ aa]) ao ?_))
 have aZ := (ai.ext O)
 obtain ⟨bb, aX, aJ, an⟩ := aZ.put (P := Tryz.prog) O.wf (t := 103) (zv := .agg #[.int .u64 0, i_ 0, i_ 0]) (val := .agg #[.int .u64 I, i_ hops, i_ aa]) (by kernel_rfl) Y (I, hops, aa) rfl
 have U := aJ.frS (W := [D]) (List.mem_singleton.2 rfl)
 refine fk_ aX (ZN) ?_
 refine ZO ?_
 refine aT _ _ ?_
 refine Z0 [0, 1, 2, 3, 4, 5, 6, 7, 8, 9] (by kernel_rfl) ?_
 refine e_' (pt_ e 0) (e_' (pt_ e 0) (e_' (pt_ e 3) (e_' (.iface 184 (pt_ e 3)) (e_' (pt_ az 0) ?_))))
 have aB := (aP.djn ai.ltF)
 have a1 := (ao.frS U (Dj.symm aB))
 refine mr_ 27 0 (.int .u64 I) a1 (e_' (i_ Y) (e_' (.agg #[.int .u64 I, i_ Y]) (e_' (.iface 186 (.agg #[.int .u64 I, i_ Y])) ?_)))
 have a2 := ((aN.ext O).fr U aD)
 have a6 := ((aM.ext O).frS U aC)
 have a7 := ((aO.ext O).fr U ae)
 have a8 := (ax.frS U ad)
 obtain ⟨be, aQ, aY⟩ := bs_ al
 refine dk_ (Zex U.wf a2 a6 a7 an a8 aG aI aF aH aE (Dj.symm ae) (Dj.symm ad) aQ) ?_
 rintro _ bc ⟨bd, aK, rfl, ah, am, aU, aR⟩
 obtain ⟨ay, aV, aA, rfl⟩ := am.form
 refine ⟨ZN, ?_⟩
 refine ZO ?_
 refine Zek (vs := []) (rfl) ?_
 have a_ := (an.frS ah (Dj.app (Dj.symm ad) (Dj.symm ae)))
 have aW := (t_ O.n U.n)
 obtain rfl := oi_ aY
 exact ⟨(.slice ay aV aA), aK, rfl, (fs_ ac (fs_ ac ((fr_ ac).extR O) U (Inn.right Inn.left)) ah (Inn.app Inn.left (Inn.right (Inn.right ir_)))), a_, am, aU, (Inn.trans ir_ aW aR)⟩
theorem ZeO {H : AH} {I : Nat} {ar : Nat} {aD : Value} {a1 : Fp} {U : Value} {aa : Fp} {au : Nat} {aw : List (Bool × List (Int × Int × Int) × List (Int × Int × Int))} {ax : Int} {ay : Int} {az : Int} {aA : Int} {am : List (Int × Int)} {aB : Int -> Option (Int × Int × Int)} {D : Int} {O : Int} {r : Bool × List (Int × Int)}
    (Y : WF H) (bW : Nd Zb 3 H aD aw a1 []) (bV : Row H ar [aD, i_ ax, i_ ay]) (a8 : Ow Zm 2 H U am aa) (bX : Ms .i64 Zz H au aB) (aC : Row H I [pt_ ar 0, i_ az, i_ aA, U, .map (some au)]) (av : Dj aa [I]) (aJ : ZaT aw ax ay az aA am aB D O = some r) :
    ACalls Tryz.prog 105 #[.iface 184 (pt_ I 3), i_ D, i_ O] H fun v H' => v = .bool r.1 /\ FrS aa H H' /\ Ow Zm 2 H' U r.2 aa := by
 refine ab_ Tryz.func105 ?_
 unfold ZaT at aJ
 refine sq_ fun k3 => g_' (q_ (.bool false) (Za (k3 _ _ (sq_ fun bj => g_' (q_ (i_ D) (q_ (i_ D) (Za (bj _ _ (sq_ fun bm => ?_)))))))))
 obtain ⟨ab, bb, bL⟩ := bs_ aJ
 refine ZP (fun α ag => Has α [(1, i_ D), (7, i_ ab.1)] /\ FrS aa H ag /\ Ow Zm 2 ag U ab.2 aa) (fun _ aN => ?_) (fun α ag hM => ?_)
 ·refine Zr ?_
  obtain ⟨aR, ba⟩ := ZC.1 bb
  refine Z9 (fun n α ac => ∃ (ae : List (Int × Int)), ∃ (e : Int), ZT (fun zz_ => Zao O zz_.1 zz_.2) n (ae, e) = some ab /\ Has α [(0, .iface 184 (pt_ I 3)), (1, i_ D), (2, i_ O), (7, i_ e)] /\ FrS aa H ac /\ Ow Zm 2 ac U ae aa) aR ⟨am, D, ba, ha_, (fr_ Y), a8⟩ ?_
  rintro aR α ac ⟨ae, e, a_, aF, Z, ad⟩ bU bf
  obtain ⟨bv, bS, rfl, af, an⟩ := ZJ a_
  obtain ⟨β, rfl⟩ := Zo aF
  clear aF
  replace af : Zao O ae e = some bS := af
  unfold Zao at af
  refine Zr (sq_ fun bg => g_' (q_ (i_ e) ?_))
  obtain ⟨a2, bw⟩ := Zc af
  refine w_' ((2 * e)) (Zs a2) ?_
  obtain ⟨a6, bx⟩ := Zc bw
  refine w_' (((2 * e) + 1)) (Zs a6) (q_ (i_ ((2 * e) + 1)) (Za (bg _ _ (sq_ fun bh => sq_ fun bi => ?_))))
  obtain ⟨aS, aK, aU⟩ := bs_ bx
  refine ZP (fun α ao => Has α [(0, .iface 184 (pt_ I 3)), (1, i_ D), (2, i_ O), (7, i_ e), (8, i_ ((2 * e) + 1)), (21, .bool aS)] /\ ac = ao) (fun _ aO => ?_) (fun α ao hM => ?_)
  ·refine g_' (q_ (i_ ((2 * e) + 1)) (q_ (i_ O) ?_))
   refine sb_ (((2 * e) + 1) ≥ O) (fun ah => ?_) fun ah => ?_
   ·have bz := Zd ah aK
    refine q_ (.bool true) (n_' (n_' (q_ (.bool true) (Za ?_))))
    obtain rfl := oi_ bz
    exact aO _ _ ⟨ha_, rfl⟩
   have bA := Zj ah aK
   refine q_ (.bool false) (q_ (i_ ((2 * e) + 1)) (q_ (.bool (decide (((2 * e) + 1) < 0))) (q_ (.bool (decide (((2 * e) + 1) < 0))) (Za ?_))))
   obtain rfl := oi_ bA
   exact aO _ _ ⟨ha_, rfl⟩
  obtain ⟨aG, rfl⟩ := hM
  obtain ⟨β, rfl⟩ := Zo aG
  clear aG
  refine bi _ _ ?_
  refine wb_ (aS) (fun ai => ?_) fun ai => ?_
  ·have bB := Zd ai aU
   refine Zaf (Zq (Zj3 (by decide) (Zq (Zau ?_))))
   obtain rfl := oi_ bB
   obtain rfl := ZL an
   exact aN _ _ ⟨ha_, (fs_ Y (fr_ Y) Z ir_), ad⟩
  have bC := ZQ ai aU
  refine Zi (bh _ _ (sq_ fun bk => g_' (q_ (i_ ((2 * e) + 1)) (q_ (i_ ((2 * e) + 1)) (Za (bk _ _ (sq_ fun bl => sq_ fun bn => g_' (q_ (i_ ((2 * e) + 1)) ?_))))))))
  obtain ⟨a7, bD⟩ := Zc bC
  refine w_' ((((2 * e) + 1) + 1)) (Zs a7) (q_ (i_ (((2 * e) + 1) + 1)) (Za (bn _ _ (sq_ fun bo => ?_))))
  obtain ⟨aT, aL, bE⟩ := bs_ bD
  refine ZP (fun α ap => Has α [(0, .iface 184 (pt_ I 3)), (1, i_ D), (2, i_ O), (7, i_ e), (9, i_ ((2 * e) + 1)), (10, i_ (((2 * e) + 1) + 1)), (33, .bool aT)] /\ ac = ap) (fun _ aP => ?_) (fun α ap hM => ?_)
  ·refine g_' (q_ (i_ (((2 * e) + 1) + 1)) (q_ (i_ O) ?_))
   refine sb_ ((((2 * e) + 1) + 1) < O) (fun aj => ?_) fun aj => ?_
   ·have bF := Zd aj aL
    refine q_ (.bool true) (q_ (.iface 184 (pt_ I 3)) (q_ (i_ (((2 * e) + 1) + 1)) (q_ (i_ ((2 * e) + 1)) ?_)))
    obtain ⟨bQ, bc, bG⟩ := bs_ bF
    have bP := (aC.frS Z av)
    refine ZfL 147 105 ⟨I, 3, none⟩ #[i_ (((2 * e) + 1) + 1), i_ ((2 * e) + 1)] (U) #[U, i_ (((2 * e) + 1) + 1), i_ ((2 * e) + 1)] (by kernel_rfl) (by kernel_rfl) (bP.l_) (Zci Z.wf ad.sq bc) ?_
    rintro _ _ ⟨rfl, rfl⟩
    refine q_ (.bool bQ) (Za ?_)
    obtain rfl := oi_ bG
    exact aP _ _ ⟨ha_, rfl⟩
   have bH := Zj aj aL
   refine q_ (.bool false) (n_' (n_' (n_' (n_' (q_ (.bool false) (Za ?_))))))
   obtain rfl := oi_ bH
   exact aP _ _ ⟨ha_, rfl⟩
  obtain ⟨aH, rfl⟩ := hM
  obtain ⟨β, rfl⟩ := Zo aH
  clear aH
  refine bo _ _ ?_
  obtain ⟨V, aM, bI⟩ := bs_ bE
  refine ZP (fun α aq => Has α [(0, .iface 184 (pt_ I 3)), (1, i_ D), (2, i_ O), (7, i_ e), (9, i_ V)] /\ ac = aq) (fun _ aQ => ?_) (fun α aq hM => ?_)
  ·refine wb_ (aT) (fun ak => ?_) fun ak => ?_
   ·have bJ := Zd ak aM
    refine g_' (q_ (i_ (((2 * e) + 1) + 1)) (q_ (i_ (((2 * e) + 1) + 1)) (Za ?_)))
    obtain rfl := oi_ bJ
    exact aQ _ _ ⟨ha_, rfl⟩
   have bK := ZQ ak aM
   refine Zi ?_
   obtain rfl := oi_ bK
   exact aQ _ _ ⟨ha_, rfl⟩
  obtain ⟨aI, rfl⟩ := hM
  obtain ⟨β, rfl⟩ := Zo aI
  clear aI
  refine bl _ _ (sq_ fun bp => sq_ fun bq => g_' (q_ (.iface 184 (pt_ I 3)) (q_ (i_ V) (q_ (i_ e) ?_))))
  obtain ⟨aX, bd, aV⟩ := bs_ bI
  have aW := (aC.frS Z av)
  refine ZfL 147 105 ⟨I, 3, none⟩ #[i_ V, i_ e] (U) #[U, i_ V, i_ e] (by kernel_rfl) (by kernel_rfl) (aW.l_) (Zci Z.wf ad.sq bd) ?_
  rintro _ _ ⟨rfl, rfl⟩
  refine q_ (.bool (!aX)) (Za (bq _ _ ?_))
  refine wb_ ((!aX)) (fun al => ?_) fun al => ?_
  ·have bM := Zd al aV
   refine Zaf (Zq (Zj3 (by decide) (Zq (Zau ?_))))
   obtain rfl := oi_ bM
   obtain rfl := ZL an
   exact aN _ _ ⟨ha_, (fs_ Y (fr_ Y) Z ir_), ad⟩
  have bN := ZQ al aV
  refine Zi (bp _ _ (sq_ fun br => g_' (q_ (.iface 184 (pt_ I 3)) (q_ (i_ e) (q_ (i_ V) ?_)))))
  obtain ⟨bR, be, bO⟩ := bs_ bN
  refine ZfL 148 105 ⟨I, 3, none⟩ #[i_ e, i_ V] (U) #[U, i_ e, i_ V] (by kernel_rfl) (by kernel_rfl) (aW.l_) (Zcg Z.wf ad be) ?_
  rintro _ bT ⟨rfl, aZ, bu⟩
  refine Za (br _ _ (g_' (q_ (i_ V) (q_ (i_ V) (Za ?_)))))
  obtain rfl := oi_ bO
  exact bf bv _ _ lt_ ⟨bR, V, an, ha_, (fs_ Y (fs_ Y (fr_ Y) Z ir_) aZ ir_), bu⟩
 obtain ⟨aE, aY, bt⟩ := hM
 obtain ⟨β, rfl⟩ := Zo aE
 clear aE
 refine bm _ _ (sq_ fun bs => g_' (q_ (i_ ab.1) (q_ (i_ D) (q_ (.bool (decide (ab.1 > D))) (q_ (.bool (decide (ab.1 > D))) (Za (bs _ _ ?_)))))))
 refine Zf ?_
 refine br_ [.bool (decide (ab.1 > D))] ?_
 obtain rfl := oi_ bL
 exact ⟨rfl, (fs_ Y (fr_ Y) aY ir_), bt⟩
end Go.Vd

/-! (KSx2) -/

set_option maxRecDepth 100000
set_option maxHeartbeats 4000000
set_option linter.unusedVariables false
namespace Go.Vd
open Go.Proofs
attribute [local irreducible] Zh Zk aWp
theorem Zfh {H : AH} {D : Nat} {Y : Nat} {am : Value} {az : Fp} {U : Value} {ak : Fp} {Z : Nat} {ap : List (Bool × List (Int × Int × Int) × List (Int × Int × Int))} {aq : Int} {ar : Int} {ag : Int} {ah : Int} {e : List (Int × Int)} {au : Int -> Option (Int × Int × Int)} {r : Int × Int × List (Int × Int)}
    (ai : WF H) (aX : Nd Zb 3 H am ap az []) (aW : Row H Y [am, i_ aq, i_ ar]) (O : Ow Zm 2 H U e ak) (aY : Ms .i64 Zz H Z au) (I : Row H D [pt_ Y 0, i_ ag, i_ ah, U, .map (some Z)]) (ay : Dj [D] ak) (an : ZbO ap aq ar ag ah e au = some r) :
    ACalls Tryz.prog 155 #[pt_ D 3] H fun v H' => ∃ (av : Value), v = .iface 186 (.agg #[.int .u64 r.1, i_ r.2.1]) /\ FrS [D] H H' /\ Ow Zm 2 H' av r.2.2 ak /\ Row H' D [pt_ Y 0, i_ ag, i_ ah, av, .map (some Z)] := by
 refine ab_ Tryz.func155 ?_
 unfold ZbO at an
 refine sq_ fun aE => g_' (q_ (.nilIface) (Za (aE _ _ (sq_ fun aF => g_' (q_ (pt_ D 3) (q_ (pt_ D 3) (lr_ 105 3 (U) I (O.sq.ln_ 105 ?_))))))))
 obtain ⟨aA, aO⟩ := Zc an
 refine w_' (((e.length : Int) - 1)) (Zs aA) (q_ (i_ ((e.length : Int) - 1)) (Za (aF _ _ (sq_ fun aB => g_' (q_ (pt_ D 3) (q_ (pt_ D 3) (lr_ 105 3 (U) I (q_ (i_ ((e.length : Int) - 1)) ?_))))))))
 obtain ⟨ad, aJ⟩ := Zc aO
 refine O.sq.ix_ 105 ad.1 ad.2 (le_ 186 0 (.agg #[.int .u64 ((gt e ((e.length : Int) - 1)).1), i_ ((gt e ((e.length : Int) - 1)).2)]) O.sq ad.1 ad.2 ?_)
 refine rk_ ai [.int .u64 0, i_ 0] fun aV aS ab ae aK => ?_
 obtain ⟨aT, aG, ac, aL⟩ := ra_ 186 0 ab.wf aK [.int .u64 ((gt e ((e.length : Int) - 1)).1), i_ ((gt e ((e.length : Int) - 1)).2)] [.int .u64 ((gt e ((e.length : Int) - 1)).1), i_ ((gt e ((e.length : Int) - 1)).2)]
 refine ek_ aG (Za (aB _ _ (sq_ fun aC => g_' (q_ (pt_ D 3) (q_ (pt_ D 3) (q_ (pt_ D 3) ?_))))))
 have aw := ((I.ext ab).frS ac (ae.djn I.ltF))
 refine lr_ 105 3 (U) aw (q_ (i_ ((e.length : Int) - 1)) ?_)
 obtain ⟨al, aM⟩ := Zc aJ
 have aP := ((O.ext ab).fr ac (ae.djn O.lt))
 obtain ⟨aZ, aH, ao⟩ := Ow.head (P := Tryz.prog) aP (t := 105) (by kernel_rfl) (hi := (some (i_ ((e.length : Int) - 1)))) (r := ((e.length : Int) - 1).toNat) (ZdV _ (by have := al; omega)) (by have := al; omega)
 obtain ⟨V, af, aa, rfl⟩ := ao.form
 refine ZbC (.slice V af aa) (by kernel_rfl) aH ?_
 refine q_ (pt_ D 3) ?_
 obtain ⟨aU, aI, aj, aN⟩ := rb_ 105 3 ac.wf aw (.slice V af aa) [pt_ Y 0, i_ ag, i_ ah, .slice V af aa, .map (some Z)]
 refine ek_ aI (Za (aC _ _ (sq_ fun aD => g_' ?_)))
 have ax := (ae.djn I.ltF)
 have aQ := (aL.frS aj (Dj.symm ax))
 refine lr_ 186 0 (.agg #[.int .u64 ((gt e ((e.length : Int) - 1)).1), i_ ((gt e ((e.length : Int) - 1)).2)]) aQ (q_ (.iface 186 (.agg #[.int .u64 ((gt e ((e.length : Int) - 1)).1), i_ ((gt e ((e.length : Int) - 1)).2)])) (q_ (.iface 186 (.agg #[.int .u64 ((gt e ((e.length : Int) - 1)).1), i_ ((gt e ((e.length : Int) - 1)).2)])) (Za (aD _ _ ?_))))
 refine Zf ?_
 refine br_ [.iface 186 (.agg #[.int .u64 ((gt e ((e.length : Int) - 1)).1), i_ ((gt e ((e.length : Int) - 1)).2)])] ?_
 have aR := (ao.fr aj ay)
 obtain rfl := oi_ aM
 exact ⟨(.slice V af aa), rfl, (fs_ ai (fs_ ai ((fr_ ai).extR ab) ac (ae.fresh (Nat.le_refl _))) aj ir_), aR, aN⟩
theorem ZeT {H : AH} {e : Nat} {aa : Nat} {ar : Value} {ak : Fp} {I : Value} {D : Fp} {ab : Nat} {al : List (Bool × List (Int × Int × Int) × List (Int × Int × Int))} {am : Int} {an : Int} {ad : Int} {ae : Int} {ao : List (Int × Int)} {ap : Int -> Option (Int × Int × Int)} {r : Int × Int × List (Int × Int) × List (Int × Int)}
    (V : WF H) (aG : Nd Zb 3 H ar al ak []) (aF : Row H aa [ar, i_ am, i_ an]) (aq : Ow Zm 2 H I ao D) (aH : Ms .i64 Zz H ab ap) (af : Row H e [pt_ aa 0, i_ ad, i_ ae, I, .map (some ab)]) (ai : Dj D ak) (ag : Dj D [aa]) (ah : Dj D [ab]) (Z : Dj D [e]) (au : Za2 al am an ad ae ao ap = some r) :
    ACalls Tryz.prog 89 #[.iface 184 (pt_ e 3)] H fun v H' => ∃ (ax : Value), v = .iface 186 (.agg #[.int .u64 r.1, i_ r.2.1]) /\ FrS ([e] ++ D) H H' /\ Ow Zm 2 H' I r.2.2.1 D /\ Ow Zm 2 H' ax r.2.2.2 D /\ Row H' e [pt_ aa 0, i_ ad, i_ ae, ax, .map (some ab)] := by
 refine ab_ Tryz.func89 ?_
 unfold Za2 at au
 refine sq_ fun aP => g_' (q_ (.nilIface) (Za (aP _ _ (sq_ fun aQ => g_' (q_ (.iface 184 (pt_ e 3)) ?_)))))
 obtain ⟨Y, aI, aU⟩ := bs_ au
 refine ZfL 146 105 ⟨e, 3, none⟩ #[] (I) #[I] (by kernel_rfl) (by kernel_rfl) (af.l_) (Zdl V aq.sq aI) ?_
 rintro _ _ ⟨rfl, rfl⟩
 obtain ⟨aE, aV⟩ := Zc aU
 refine w_' ((Y - 1)) (Zs aE) (q_ (i_ (Y - 1)) (Za (aQ _ _ (sq_ fun aM => g_' (q_ (.iface 184 (pt_ e 3)) (q_ (i_ (Y - 1)) ?_))))))
 obtain ⟨bc, aJ, aW⟩ := bs_ aV
 refine ZfL 148 105 ⟨e, 3, none⟩ #[i_ 0, i_ (Y - 1)] (I) #[I, i_ 0, i_ (Y - 1)] (by kernel_rfl) (by kernel_rfl) (af.l_) (Zcg V aq aJ) ?_
 rintro _ a8 ⟨rfl, O, aR⟩
 refine Za (aM _ _ (sq_ fun aN => g_' (q_ (.iface 184 (pt_ e 3)) (q_ (i_ (Y - 1)) ?_))))
 have ay := (aG.fr O ai)
 have az := (aF.frS O ag)
 have aA := (aH.frS O ah)
 have aB := (af.frS O Z)
 obtain ⟨bd, aK, aX⟩ := bs_ aW
 refine ck_ (ZeO O.wf ay az aR aA aB Z aK) ?_
 rintro _ a_ ⟨rfl, U, av⟩
 refine Za (aN _ _ (sq_ fun aO => g_' (q_ (.iface 184 (pt_ e 3)) ?_)))
 have aZ := (ay.fr U ai)
 have a1 := (az.frS U ag)
 have a2 := (aA.frS U ah)
 have a6 := (aB.frS U Z)
 obtain ⟨ac, aL, aY⟩ := bs_ aX
 refine ck_ (Zfh U.wf aZ a1 av a2 a6 (Dj.symm Z) aL) ?_
 rintro _ ba ⟨bb, rfl, aj, aw, aS⟩
 obtain ⟨aC, aT, aD, rfl⟩ := aw.form
 refine q_ (.iface 186 (.agg #[.int .u64 ac.1, i_ ac.2.1])) (Za (aO _ _ ?_))
 refine Zf ?_
 refine br_ [.iface 186 (.agg #[.int .u64 ac.1, i_ ac.2.1])] ?_
 have a7 := (av.fr aj (Dj.symm Z))
 obtain rfl := oi_ aY
 exact ⟨(.slice aC aT aD), rfl, (fs_ V (fs_ V (fs_ V (fr_ V) O (Inn.right ir_)) U (Inn.right ir_)) aj Inn.left), a7, aw, aS⟩
theorem Zfg {H : AH} {O : Nat} {ai : Nat} {bb : Value} {aL : Fp} {aP : Value} {ac : Fp} {af : Nat} {az : List (Bool × List (Int × Int × Int) × List (Int × Int × Int))} {aA : Int} {aB : Int} {ak : Int} {al : Int} {aX : List (Int × Int)} {D : Int -> Option (Int × Int × Int)} {r : Int × Int × Int × Int × Bool × List (Int × Int)}
    (ae : WF H) (bV : Nd Zb 3 H bb az aL []) (bU : Row H ai [bb, i_ aA, i_ aB]) (ag : Ow Zm 2 H aP aX ac) (ba : Ms .i64 Zz H af D) (aj : Row H O [pt_ ai 0, i_ ak, i_ al, aP, .map (some af)]) (a_ : Dj ac aL) (a8 : Dj ac [ai]) (aH : Dj ac [af]) (bT : Dj ac [O]) (a7 : Dj [O] [af]) (bS : Dj [O] aL) (bR : Dj [O] [ai]) (be : Za9 az aA aB ak al aX D = some r) :
    ACalls Tryz.prog 65 #[pt_ O 0] H fun v H' => ∃ (bt : Value), v = .tuple #[i_ r.1, .agg #[.int .u64 r.2.1, i_ r.2.2.1, i_ r.2.2.2.1], .bool r.2.2.2.2.1] /\ FrS ([O] ++ ac) H H' /\ Ow Zm 2 H' bt r.2.2.2.2.2 ac /\ Row H' O [pt_ ai 0, i_ ak, i_ al, bt, .map (some af)] := by
 refine ab_ Tryz.func65 ?_
 unfold Za9 at be
 refine sq_ fun ce => g_' (q_ (i_ 0) ?_)
 refine rk_ ae [.int .u64 0, i_ 0, i_ 0] fun au aY I am ay => ?_
 refine q_ (.bool false) (Za (ce _ _ (sq_ fun b8 => ?_)))
 obtain ⟨bw, bZ, bo⟩ := bs_ be
 refine ZP (fun α aq => ∃ aT, bw = Sum.inr aT /\ ∃ (aV : Value), Has α [(3, pt_ au 0)] /\ FrS ([O] ++ ac) aY aq /\ Ow Zm 2 aq aV aT ac /\ Row aq O [pt_ ai 0, i_ ak, i_ al, aV, .map (some af)]) (fun _ b_ => ?_) (fun α aq hM => ?_)
 ·refine Zr ?_
  obtain ⟨bl, bX⟩ := ZC.1 bZ
  have cP := (ag.ext I)
  have cQ := (aj.ext I)
  refine Z9 (fun n α ar => ∃ (ao : List (Int × Int)), ∃ (aW : Value), ZT (fun zz_ => ZaD az aA aB ak al D zz_) n ao = some bw /\ Has α [(0, pt_ O 0), (3, pt_ au 0)] /\ FrS ([O] ++ ac) aY ar /\ Ow Zm 2 ar aW ao ac /\ Row ar O [pt_ ai 0, i_ ak, i_ al, aW, .map (some af)]) bl ⟨aX, (aP), bX, ha_, (fr_ I.wf), cP, cQ⟩ ?_
  rintro bl α ar ⟨ao, aW, bW, bd, U, aw, aQ⟩ cY bg
  obtain ⟨bm, z39, rfl, ap, av⟩ := ZJ bW
  obtain ⟨β, rfl⟩ := Zo bd
  clear bd
  replace ap : ZaD az aA aB ak al D ao = some z39 := ap
  unfold ZaD at ap
  obtain ⟨a45, bn, a1, rfl⟩ := aw.form
  refine sq_ fun ca => sq_ fun cc => g_' (q_ (pt_ O 0) (q_ (pt_ O 0) (q_ (pt_ O 3) (lr_ 105 3 (.slice a45 bn a1) aQ (aw.sq.ln_ 105 (q_ (.bool (decide ((ao.length : Int) > 0))) (Za (cc _ _ ?_))))))))
  refine wc_ ((ao.length : Int) > 0) (fun aN => ?_) fun aN => ?_
  ·have cD := Zd aN ap
   refine Zi (ca _ _ (Zr (sq_ fun cd => g_' (q_ (pt_ O 0) (q_ (pt_ O 0) (q_ (pt_ O 3) (q_ (.iface 184 (pt_ O 3)) ?_)))))))
   have cR := ((bV.ext I).fr U (Dj.app bS a_))
   have cS := ((bU.ext I).frS U (Dj.app bR a8))
   have bu := ((ba.ext I).frS U (Dj.app a7 aH))
   obtain ⟨e, b5, bp⟩ := bs_ cD
   refine ck_ (ZeT U.wf cR cS aw bu aQ a_ a8 aH bT b5) ?_
   rintro _ cU ⟨c0, rfl, Y, cZ, ax, ch⟩
   obtain ⟨a66, aS, aE, rfl⟩ := ax.form
   refine q_ (.agg #[.int .u64 e.1, i_ e.2.1]) ?_
   refine rk_ Y.wf [.int .u64 0, i_ 0] fun aD cV Z ah bq => ?_
   obtain ⟨bA, cu, V, br⟩ := ra_ 186 0 Z.wf bq [.int .u64 e.1, i_ e.2.1] [.int .u64 e.1, i_ e.2.1]
   refine ek_ cu (Za (cd _ _ (sq_ fun cf => ?_)))
   refine Z0 [0, 1, 2, 3, 4, 5, 6, 7, 8] (by kernel_rfl) ?_
   refine e_' (pt_ O 0) (e_' (pt_ O 0) (e_' (pt_ O 4) ?_))
   have an := (t_ (t_ I.n U.n) Y.n)
   have bO := (ah.djn (aj.ltF.le an))
   have aC := ((ch.ext Z).frS V bO)
   refine mr_ 103 4 (.map (some af)) aC (e_' (pt_ aD 1) (mr_ 3 1 (i_ e.2.1) br ?_))
   have bP := (ah.djn (ba.ltF.le an))
   have cT := (((bu.frS Y (Dj.app a7 aH)).ext Z).frS V bP)
   refine m_' (.agg #[.int .u64 (((D e.2.1).getD ((0, 0, 0) : Int × Int × Int)).1), i_ (((D e.2.1).getD ((0, 0, 0) : Int × Int × Int)).2.1), i_ (((D e.2.1).getD ((0, 0, 0) : Int × Int × Int)).2.2)]) (Zb9 Tryz.prog 103 (.map (some af)) (i_ e.2.1) false bA) (cT.look ((0, 0, 0) : Int × Int × Int) (zv := .agg #[.int .u64 0, i_ 0, i_ 0]) rfl (by kernel_rfl) (by kernel_rfl) _ rfl) ?_
   refine ZlJ V.wf [.int .u64 0, i_ 0, i_ 0] (by kernel_rfl) fun aZ cW aa ad cE => ?_
   obtain ⟨cX, cv, ab, aU⟩ := ra_ 110 0 aa.wf cE [.int .u64 (((D e.2.1).getD ((0, 0, 0) : Int × Int × Int)).1), i_ (((D e.2.1).getD ((0, 0, 0) : Int × Int × Int)).2.1), i_ (((D e.2.1).getD ((0, 0, 0) : Int × Int × Int)).2.2)] [.int .u64 (((D e.2.1).getD ((0, 0, 0) : Int × Int × Int)).1), i_ (((D e.2.1).getD ((0, 0, 0) : Int × Int × Int)).2.1), i_ (((D e.2.1).getD ((0, 0, 0) : Int × Int × Int)).2.2)]
   refine fk_ cv (ZN) ?_
   refine ZO ?_
   refine cf _ _ (sq_ fun bh => g_' (q_ (pt_ aZ 2) (lr_ 3 2 (i_ (((D e.2.1).getD ((0, 0, 0) : Int × Int × Int)).2.2)) aU ?_)))
   refine sb_ ((((D e.2.1).getD ((0, 0, 0) : Int × Int × Int)).2.2) = 0) (fun aO => ?_) fun aO => ?_
   ·have bs := Zd aO bp
    refine q_ (.bool true) (q_ (pt_ aZ 0) (lr_ 27 0 (.int .u64 (((D e.2.1).getD ((0, 0, 0) : Int × Int × Int)).1)) aU (q_ (pt_ aD 0) ?_)))
    have bQ := (ad.djn (bq.ltF.le V.n))
    have bv := ((br.ext aa).frS ab bQ)
    refine lr_ 27 0 (.int .u64 e.1) bv (q_ (.bool (decide ((((D e.2.1).getD ((0, 0, 0) : Int × Int × Int)).1) = e.1))) (q_ (.bool (decide ((((D e.2.1).getD ((0, 0, 0) : Int × Int × Int)).1) = e.1))) (Za (bh _ _ ?_))))
    refine wc_ ((((D e.2.1).getD ((0, 0, 0) : Int × Int × Int)).1) = e.1) (fun aM => ?_) fun aM => ?_
    ·have cw := Zd aM bs
     refine sq_ fun b7 => ?_
     refine Z0 [0, 1, 2, 3, 4, 5] (by kernel_rfl) ?_
     refine e_' (pt_ aD 1) (mr_ 3 1 (i_ e.2.1) bv (mr_ 110 0 (.agg #[.int .u64 (((D e.2.1).getD ((0, 0, 0) : Int × Int × Int)).1), i_ (((D e.2.1).getD ((0, 0, 0) : Int × Int × Int)).2.1), i_ (((D e.2.1).getD ((0, 0, 0) : Int × Int × Int)).2.2)]) aU (e_' (i_ e.2.1) ?_)))
     have aF := (am.djn ag.lt)
     have aG := (am.djn aj.ltF)
     have ci := (t_ U.n Y.n)
     have bD := (ah.djn (ay.ltF.le ci))
     have cj := (t_ (t_ (t_ U.n Y.n) Z.n) V.n)
     have bE := (ad.djn (ay.ltF.le cj))
     have cF := ((((((ay.frS U (Dj.app (Dj.symm aG) (Dj.symm aF))).frS Y (Dj.app (Dj.symm aG) (Dj.symm aF))).ext Z).frS V bD).ext aa).frS ab bE)
     obtain ⟨bx, cq, aI, cx⟩ := ra_ 110 0 ab.wf cF [.int .u64 (((D e.2.1).getD ((0, 0, 0) : Int × Int × Int)).1), i_ (((D e.2.1).getD ((0, 0, 0) : Int × Int × Int)).2.1), i_ (((D e.2.1).getD ((0, 0, 0) : Int × Int × Int)).2.2)] [.int .u64 (((D e.2.1).getD ((0, 0, 0) : Int × Int × Int)).1), i_ (((D e.2.1).getD ((0, 0, 0) : Int × Int × Int)).2.1), i_ (((D e.2.1).getD ((0, 0, 0) : Int × Int × Int)).2.2)]
     refine fk_ cq (ZN) (e_' (.bool true) ?_)
     refine ZO ?_
     refine b7 _ _ ?_
     refine Zf (Z6 (Zg (Z6 (Zg (Zg ?_)))))
     obtain ⟨c3, bf, b6⟩ := map_some cw
     subst b6
     obtain rfl := ZL av
     have bY := elim_inl bo
     rw [bY] at bf
     refine Zcy (vs := [i_ e.2.1, .agg #[.int .u64 (((D e.2.1).getD ((0, 0, 0) : Int × Int × Int)).1), i_ (((D e.2.1).getD ((0, 0, 0) : Int × Int × Int)).2.1), i_ (((D e.2.1).getD ((0, 0, 0) : Int × Int × Int)).2.2)], .bool true]) (ZcB (by kernel_rfl) (Zda (Eq.trans (b := aL_ 110 (pt_ au 0) bx) (by kernel_rfl) (cx.l_)) (rt_ (rfl)))) ?_
     have aR := (t_ (t_ (t_ (t_ I.n U.n) Y.n) Z.n) V.n)
     have bF := (ah.djn (ag.lt.le an))
     have bG := (ad.djn (ag.lt.le aR))
     have cG := (((((ax.ext Z).fr V bF).ext aa).fr ab bG).fr aI aF)
     have bH := (ad.djn (aj.ltF.le aR))
     have cH := (((aC.ext aa).frS ab bH).frS aI aG)
     obtain rfl := oi_ bf
     exact ⟨(.slice a66 aS aE), rfl, (fs_ ae (fs_ ae ((fs_ ae ((fs_ ae (fs_ ae ((fr_ ae).extR I) U ir_) Y ir_).extR Z) V (ah.fresh an)).extR aa) ab (ad.fresh aR)) aI (am.fresh (Nat.le_refl _))), cG, cH⟩
    have cy := Zj aM bs
    refine Zi ?_
    have ck := (t_ U.n Y.n)
    have cm := (t_ (t_ (t_ U.n Y.n) Z.n) V.n)
    have bI := (ah.djn (ag.lt.le an))
    have bj := (t_ (t_ (t_ (t_ I.n U.n) Y.n) Z.n) V.n)
    have bJ := (ad.djn (ag.lt.le bj))
    have cI := ((((ax.ext Z).fr V bI).ext aa).fr ab bJ)
    have bK := (ad.djn (aj.ltF.le bj))
    have cJ := ((aC.ext aa).frS ab bK)
    obtain rfl := oi_ cy
    exact bg bm _ _ lt_ ⟨e.2.2.2, (.slice a66 aS aE), av, ha_, (fs_ I.wf ((fs_ I.wf ((fs_ I.wf (fs_ I.wf (fr_ I.wf) U ir_) Y ir_).extR Z) V (ah.fresh ck)).extR aa) ab (ad.fresh cm)), cI, cJ⟩
   have cz := Zj aO bp
   refine q_ (.bool false) (n_' (n_' (n_' (n_' (n_' (q_ (.bool false) (Za (bh _ _ ?_))))))))
   refine wb_ false (fun h => by cases h) fun _ => ?_
   refine Zi ?_
   have cn := (t_ U.n Y.n)
   have co := (t_ (t_ (t_ U.n Y.n) Z.n) V.n)
   have bL := (ah.djn (ag.lt.le an))
   have bk := (t_ (t_ (t_ (t_ I.n U.n) Y.n) Z.n) V.n)
   have bM := (ad.djn (ag.lt.le bk))
   have cK := ((((ax.ext Z).fr V bL).ext aa).fr ab bM)
   have bN := (ad.djn (aj.ltF.le bk))
   have cL := ((aC.ext aa).frS ab bN)
   obtain rfl := oi_ cz
   exact bg bm _ _ lt_ ⟨e.2.2.2, (.slice a66 aS aE), av, ha_, (fs_ I.wf ((fs_ I.wf ((fs_ I.wf (fs_ I.wf (fr_ I.wf) U ir_) Y ir_).extR Z) V (ah.fresh cn)).extR aa) ab (ad.fresh co)), cK, cL⟩
  have cA := Zj aN ap
  refine Zaf (Zq (Zq (Zau ?_)))
  obtain rfl := oi_ cA
  obtain rfl := ZL av
  exact b_ _ _ ⟨_, rfl, (.slice a45 bn a1), ha_, (fs_ I.wf (fr_ I.wf) U ir_), aw, aQ⟩
 obtain ⟨aT, rfl, aV, bc, aK, bi, cg⟩ := hM
 have cB := elim_inr bo
 obtain ⟨β, rfl⟩ := Zo bc
 clear bc
 obtain ⟨bB, cp, bC, rfl⟩ := bi.form
 refine b8 _ _ (sq_ fun b9 => g_' (q_ (.agg #[.int .u64 0, i_ 0, i_ 0]) (q_ (i_ 0) ?_)))
 have a2 := (am.djn ag.lt)
 have a6 := (am.djn aj.ltF)
 have cM := (ay.frS aK (Dj.app (Dj.symm a6) (Dj.symm a2)))
 obtain ⟨bz, cr, aJ, cC⟩ := ra_ 110 0 aK.wf cM [.int .u64 0, i_ 0, i_ 0] [.int .u64 0, i_ 0, i_ 0]
 refine ek_ cr (q_ (.bool false) (Za (b9 _ _ ?_)))
 refine Zf ?_
 refine Zcy (vs := [i_ 0, .agg #[.int .u64 0, i_ 0, i_ 0], .bool false]) (ZcB (by kernel_rfl) (Zda (Eq.trans (b := aL_ 110 (pt_ au 0) bz) (by kernel_rfl) (cC.l_)) (rt_ (rfl)))) ?_
 have cN := (bi.fr aJ a2)
 have cO := (cg.frS aJ a6)
 obtain rfl := oi_ cB
 exact ⟨(.slice bB cp bC), rfl, (fs_ ae (fs_ ae ((fr_ ae).extR I) aK ir_) aJ (am.fresh (Nat.le_refl _))), cN, cO⟩
theorem ZeA {H : AH} {U : Nat} {ar : Nat} {bE : Value} {aM : Fp} {aO : Value} {aj : Fp} {af : Nat} {aV : List (Bool × List (Int × Int × Int) × List (Int × Int × Int))} {aW : Int} {aX : Int} {av : Int} {aq : Int} {bj : List (Int × Int)} {bk : Int -> Option (Int × Int × Int)} {aC : Int} {ac : Int} {hops : Int} {bl : Int} {r : (Int -> Option (Int × Int × Int)) × List (Int × Int)}
    (aw : WF H) (aA : Nd Zb 3 H bE aV aM []) (az : Row H ar [bE, i_ aW, i_ aX]) (aB : Ow Zm 2 H aO bj aj) (ao : Ms .i64 Zz H af bk) (am : Row H U [pt_ ar 0, i_ av, i_ aq, aO, .map (some af)]) (bw : Dj [af] [U]) (bx : Dj [af] aj) (a2 : Dj [af] aM) (a1 : Dj [af] [ar]) (c4 : Dj aj [U]) (bC : Dj aj aM) (bA : Dj [U] aM) (bB : Dj aj [ar]) (bz : Dj [U] [ar]) (c5 : Dj aj [af]) (bb : ZaQ aV aW aX av aq bj bk aC ac hops bl = some r) :
    ACalls Tryz.prog 66 #[pt_ U 0, i_ aC, .agg #[.int .u64 ac, i_ hops, i_ bl]] H fun v H' => ∃ (b9 : Value) (f6 : Fp), v = .tuple #[] /\ FrS ([U] ++ ([af] ++ aj)) H H' /\ Ms .i64 Zz H' af r.1 /\ Ow Zm 2 H' b9 r.2 f6 /\ Row H' U [pt_ ar 0, i_ av, i_ aq, b9, .map (some af)] /\ Inn aj H f6 := by
 refine ab_ Tryz.func66 ?_
 unfold ZaQ at bb
 refine sq_ fun dm => g_' ?_
 refine rl_ aw [.int .u64 ac, i_ hops, i_ bl] fun ay eI ag an bg => ?_
 refine Za (dm _ _ (sq_ fun du => g_' (q_ (pt_ ay 2) ?_)))
 obtain ⟨eM, d1, ad, b8⟩ := rb_ 3 2 ag.wf bg (i_ 1) [.int .u64 ac, i_ hops, i_ 1]
 refine ek_ d1 (Za (du _ _ (sq_ fun dv => ?_)))
 refine Z0 [0, 1, 2, 3, 4, 5, 6] (by kernel_rfl) ?_
 refine e_' (pt_ U 0) (e_' (pt_ U 0) (e_' (pt_ U 4) ?_))
 have cd := ((am.ext ag).frS ad (an.djn am.ltF))
 refine mr_ 103 4 (.map (some af)) cd (e_' (i_ aC) (mr_ 110 0 (.agg #[.int .u64 ac, i_ hops, i_ 1]) b8 ?_))
 have eB := ((ao.ext ag).frS ad (an.djn ao.ltF))
 obtain ⟨eN, d2, c7, bP⟩ := eB.put (P := Tryz.prog) ad.wf (t := 103) (zv := .agg #[.int .u64 0, i_ 0, i_ 0]) (val := .agg #[.int .u64 ac, i_ hops, i_ 1]) (by kernel_rfl) aC (ac, hops, 1) rfl
 have ae := c7.frS (W := [af]) (List.mem_singleton.2 rfl)
 refine fk_ d2 (ZN) ?_
 refine ZO ?_
 refine dv _ _ (sq_ fun dw => sq_ fun dx => ?_)
 refine Z0 [0, 1, 2, 3, 4, 5, 6] (by kernel_rfl) ?_
 refine e_' (pt_ ay 1) ?_
 have bv := (an.djn ao.ltF)
 have ce := (b8.frS ae (Dj.symm bv))
 refine mr_ 3 1 (i_ hops) ce (e_' (pt_ U 0) (e_' (pt_ U 0) (e_' (pt_ U 2) ?_)))
 have aZ := (cd.frS ae bw)
 refine mr_ 3 2 (i_ aq) aZ (e_' (.bool (decide (hops ≥ aq))) ?_)
 refine ZO ?_
 refine dx _ _ ?_
 refine wc_ (hops ≥ aq) (fun a_ => ?_) fun a_ => ?_
 ·have ek := Zd a_ bb
  refine Zf (Zg ?_)
  refine Zcy (vs := []) (rfl) ?_
  have eC := (((aB.ext ag).fr ad (an.djn aB.lt)).fr ae bx)
  obtain rfl := oi_ ek
  exact ⟨(aO), aj, rfl, (fs_ aw (fs_ aw ((fr_ aw).extR ag) ad (an.fresh (Nat.le_refl _))) ae (Inn.right Inn.left)), bP, eC, aZ, ir_⟩
 have el := Zj a_ bb
 refine Zi (dw _ _ (sq_ fun dy => g_' (q_ (pt_ U 0) (q_ (pt_ U 0) (q_ (pt_ U 0) (lr_ 29 0 (pt_ ar 0) aZ (q_ (i_ aC) ?_)))))))
 have cf := (((aA.ext ag).fr ad (an.djn aA.lt)).fr ae a2)
 have cg := (((az.ext ag).frS ad (an.djn az.ltF)).frS ae a1)
 obtain ⟨D, dh, em⟩ := bs_ el
 refine ck_ (Zbq ae.wf cf cg dh) ?_
 rintro eR aK ⟨_, f46, rfl, O, bd, bc⟩
 obtain ⟨bp, bS, bt, rfl⟩ := bd.form
 refine bd.sq.ln_ 75 (q_ (i_ 0) (Za (dy _ _ ?_)))
 obtain ⟨bf, df, en⟩ := bs_ em
 refine ZP (fun α aD => ∃ (bh : Value) (aL : Fp), Has α [] /\ FrS ([U] ++ ([af] ++ aj)) aK aD /\ Ms .i64 Zz aD af bf.1 /\ Ow Zm 2 aD bh bf.2 aL /\ Row aD U [pt_ ar 0, i_ av, i_ aq, bh, .map (some af)] /\ Inn aj aK aL) (fun _ dz => ?_) (fun α aD hM => ?_)
 ·refine Zr ?_
  obtain ⟨bT, de⟩ := ZC.1 df
  have eD := ((((aB.ext ag).fr ad (an.djn aB.lt)).fr ae bx).fr O dn_)
  have eE := (bP.frS O dn_)
  have eF := (aZ.frS O dn_)
  refine Z9 (fun n α aE => ∃ (aJ : List (Int × Int)), ∃ (I : Int -> Option (Int × Int × Int)), ∃ (e : Int), ∃ (bi : Value), ∃ (aG : Fp), ZT (fun zz_ => Zar aV aW aX av aq ac hops D zz_.1 zz_.2.1 zz_.2.2) n (aJ, I, e) = some bf /\ Has α [(0, pt_ U 0), (5, pt_ ay 0), (30, .slice bp bS bt), (31, i_ (D.length : Int)), (32, i_ e)] /\ FrS ([U] ++ ([af] ++ aj)) aK aE /\ Ow Zm 2 aE bi aJ aG /\ Ms .i64 Zz aE af I /\ Row aE U [pt_ ar 0, i_ av, i_ aq, bi, .map (some af)] /\ Inn aj aK aG) bT ⟨bj, (fun x => if x = aC then some (ac, hops, 1) else bk x), 0, (aO), aj, de, ha_, (fr_ O.wf), eD, eE, eF, ir_⟩ ?_
  rintro bT α aE ⟨aJ, I, e, bi, aG, dd, bH, ab, ap, bN, bO, ax⟩ eP bK
  obtain ⟨bU, eG, rfl, aI, ba⟩ := ZJ dd
  obtain ⟨β, rfl⟩ := Zo bH
  clear bH
  replace aI : Zar aV aW aX av aq ac hops D aJ I e = some eG := aI
  unfold Zar at aI
  obtain ⟨bq, bV, bu, rfl⟩ := ap.form
  refine sq_ fun dA => g_' (q_ (.bool (decide (e < (D.length : Int)))) (Za (dA _ _ (sq_ fun dB => ?_))))
  refine wc_ (e < (D.length : Int)) (fun aH => ?_) fun aH => ?_
  ·have d3 := Zd aH aI
   refine Zi (dB _ _ (sq_ fun bJ => Zr (sq_ fun dn => g_' ?_)))
   obtain ⟨bD, d4⟩ := Zc d3
   have be := (t_ (t_ ag.n ad.n) ae.n)
   have cp := (bc.djn (aB.lt.le be))
   have cq := (bc.djn (ao.ltF.le be))
   have cr := (bc.djn (am.ltF.le be))
   have b_ := (bd.fr ab (Dj.app (Dj.symm cr) (Dj.app (Dj.symm cq) (Dj.symm cp))))
   refine b_.sq.ix_ 75 bD aH (le_ 80 0 (.agg #[i_ ((gt D e).1), .int .u64 ((gt D e).2.1), i_ ((gt D e).2.2)]) b_.sq bD aH ?_)
   refine rk_ ab.wf [i_ 0, .int .u64 0, i_ 0] fun aF eH Y au aU => ?_
   obtain ⟨ci, dY, V, bX⟩ := ra_ 80 0 Y.wf aU [i_ ((gt D e).1), .int .u64 ((gt D e).2.1), i_ ((gt D e).2.2)] [i_ ((gt D e).1), .int .u64 ((gt D e).2.1), i_ ((gt D e).2.2)]
   refine ek_ dY (Za (dn _ _ (sq_ fun dp => ?_)))
   refine Z0 [0, 1, 2, 3, 4, 5, 6, 7, 8, 9, 10, 11, 12] (by kernel_rfl) ?_
   refine e_' (pt_ U 0) (e_' (pt_ U 0) (e_' (pt_ U 4) ?_))
   have aQ := (t_ (t_ (t_ (t_ ag.n ad.n) ae.n) O.n) ab.n)
   have cu := (au.djn (am.ltF.le aQ))
   have aY := ((bO.ext Y).frS V cu)
   refine mr_ 103 4 (.map (some af)) aY (e_' (pt_ aF 0) (mr_ 3 0 (i_ ((gt D e).1)) bX ?_))
   have cv := (au.djn (ao.ltF.le aQ))
   have bm := ((bN.ext Y).frS V cv)
   refine m_' (.tuple #[.agg #[.int .u64 (((I ((gt D e).1)).getD ((0, 0, 0) : Int × Int × Int)).1), i_ (((I ((gt D e).1)).getD ((0, 0, 0) : Int × Int × Int)).2.1), i_ (((I ((gt D e).1)).getD ((0, 0, 0) : Int × Int × Int)).2.2)], .bool ((I ((gt D e).1)).isSome)]) (Zb9 Tryz.prog 103 (.map (some af)) (i_ ((gt D e).1)) true ci) (bm.look2 ((0, 0, 0) : Int × Int × Int) (zv := .agg #[.int .u64 0, i_ 0, i_ 0]) rfl (by kernel_rfl) (by kernel_rfl) _ rfl) (e_' (.tuple #[.agg #[.int .u64 (((I ((gt D e).1)).getD ((0, 0, 0) : Int × Int × Int)).1), i_ (((I ((gt D e).1)).getD ((0, 0, 0) : Int × Int × Int)).2.1), i_ (((I ((gt D e).1)).getD ((0, 0, 0) : Int × Int × Int)).2.2)], .bool ((I ((gt D e).1)).isSome)]) (e_' (.agg #[.int .u64 (((I ((gt D e).1)).getD ((0, 0, 0) : Int × Int × Int)).1), i_ (((I ((gt D e).1)).getD ((0, 0, 0) : Int × Int × Int)).2.1), i_ (((I ((gt D e).1)).getD ((0, 0, 0) : Int × Int × Int)).2.2)]) (e_' (.bool ((I ((gt D e).1)).isSome)) ?_)))
   refine ZlJ V.wf [.int .u64 0, i_ 0, i_ 0] (by kernel_rfl) fun br eJ aa al bY => ?_
   obtain ⟨eK, dZ, Z, d5⟩ := ra_ 110 0 aa.wf bY [.int .u64 (((I ((gt D e).1)).getD ((0, 0, 0) : Int × Int × Int)).1), i_ (((I ((gt D e).1)).getD ((0, 0, 0) : Int × Int × Int)).2.1), i_ (((I ((gt D e).1)).getD ((0, 0, 0) : Int × Int × Int)).2.2)] [.int .u64 (((I ((gt D e).1)).getD ((0, 0, 0) : Int × Int × Int)).1), i_ (((I ((gt D e).1)).getD ((0, 0, 0) : Int × Int × Int)).2.1), i_ (((I ((gt D e).1)).getD ((0, 0, 0) : Int × Int × Int)).2.2)]
   refine fk_ dZ (ZN) (e_' (.bool ((I ((gt D e).1)).isSome)) ?_)
   refine ZO ?_
   refine dp _ _ (sq_ fun dq => g_' (q_ (pt_ ay 0) ?_))
   have cw := (an.djn aB.lt)
   have cx := (an.djn am.ltF)
   have dG := (t_ (t_ (t_ ad.n ae.n) O.n) ab.n)
   have cy := (au.djn (bg.ltF.le dG))
   have dH := (t_ (t_ (t_ (t_ (t_ ad.n ae.n) O.n) ab.n) Y.n) V.n)
   have cz := (al.djn (bg.ltF.le dH))
   have ca := ((((((ce.frS O dn_).frS ab (Dj.app (Dj.symm cx) (Dj.app (Dj.symm bv) (Dj.symm cw)))).ext Y).frS V cy).ext aa).frS Z cz)
   refine lr_ 27 0 (.int .u64 ac) ca (q_ (pt_ aF 1) ?_)
   have cA := (al.djn (aU.ltF.le V.n))
   have bn := ((bX.ext aa).frS Z cA)
   refine lr_ 27 1 (.int .u64 ((gt D e).2.1)) bn ?_
   obtain ⟨c_, d6⟩ := Zc d4
   refine s_w ((ac + ((gt D e).2.1))) (k := .u64) (x := (ac + ((gt D e).2.1))) (by kernel_rfl) (ZdY c_) ?_
   refine q_ (pt_ ay 1) (lr_ 3 1 (i_ hops) ca ?_)
   obtain ⟨da, d7⟩ := Zc d6
   refine w_' ((hops + 1)) (Zs da) (q_ (.agg #[.int .u64 (ac + ((gt D e).2.1)), i_ (hops + 1), i_ 0]) ?_)
   refine rk_ Z.wf [.int .u64 0, i_ 0, i_ 0] fun bs eL ah ak d8 => ?_
   obtain ⟨cj, d0, ai, bZ⟩ := ra_ 110 0 ah.wf d8 [.int .u64 (ac + ((gt D e).2.1)), i_ (hops + 1), i_ 0] [.int .u64 (ac + ((gt D e).2.1)), i_ (hops + 1), i_ 0]
   refine ek_ d0 (Za (dq _ _ (sq_ fun dr => sq_ fun dt => ?_)))
   obtain ⟨bW, bI, b5⟩ := bs_ d7
   refine ZP (fun α bo => Has α [(0, pt_ U 0), (5, pt_ ay 0), (7, pt_ aF 0), (10, pt_ bs 0), (30, .slice bp bS bt), (31, i_ (D.length : Int)), (32, i_ e), (76, .bool bW)] /\ cj = bo) (fun _ aP => ?_) (fun α bo hM => ?_)
   ·refine Z0 [0, 1, 2, 3, 4, 5, 6, 7, 8, 9, 10, 11, 12, 13, 14, 15, 16, 17, 18, 19, 20, 21] (by kernel_rfl) ?_
    refine e_' (pt_ aF 0) ?_
    have dI := (t_ (t_ V.n aa.n) Z.n)
    have cB := (ak.djn (aU.ltF.le dI))
    have eo := ((bn.ext ah).frS ai cB)
    refine mr_ 3 0 (i_ ((gt D e).1)) eo (e_' (pt_ U 0) (e_' (pt_ U 0) (e_' (pt_ U 1) ?_)))
    have dJ := (t_ (t_ (t_ (t_ (t_ (t_ ag.n ad.n) ae.n) O.n) ab.n) Y.n) V.n)
    have cC := (al.djn (am.ltF.le dJ))
    have dK := (t_ (t_ (t_ (t_ (t_ (t_ (t_ (t_ ag.n ad.n) ae.n) O.n) ab.n) Y.n) V.n) aa.n) Z.n)
    have cD := (ak.djn (am.ltF.le dK))
    have ep := ((((aY.ext aa).frS Z cC).ext ah).frS ai cD)
    refine mr_ 3 1 (i_ av) ep ?_
    refine db_ (((gt D e).1) = av) (fun a6 => ?_) fun a6 => ?_
    ·have d9 := Zd a6 bI
     refine e_' (.bool true) (j_' (j_' (j_' (e_' (.bool true) (e_' (.bool true) (j_' (j_' (j_' (j_' (j_' (j_' (j_' (j_' (e_' (.bool true) ?_))))))))))))))
     refine ZO ?_
     obtain rfl := oi_ d9
     exact aP _ _ ⟨ha_, rfl⟩
    have b6 := Zj a6 bI
    refine e_' (.bool false) (e_' (pt_ br 2) ?_)
    have cE := (ak.djn (bY.ltF.le Z.n))
    have cc := ((d5.ext ah).frS ai cE)
    refine mr_ 3 2 (i_ (((I ((gt D e).1)).getD ((0, 0, 0) : Int × Int × Int)).2.2)) cc ?_
    refine db_ ((((I ((gt D e).1)).getD ((0, 0, 0) : Int × Int × Int)).2.2) > 0) (fun a7 => ?_) fun a7 => ?_
    ·have d_ := Zd a7 b6
     refine e_' (.bool true) (e_' (.bool true) (j_' (j_' (j_' (j_' (j_' (j_' (j_' (j_' (e_' (.bool true) ?_))))))))))
     refine ZO ?_
     obtain rfl := oi_ d_
     exact aP _ _ ⟨ha_, rfl⟩
    have b7 := Zj a7 b6
    refine e_' (.bool false) (e_' (.bool false) (e_' (.bool ((I ((gt D e).1)).isSome)) (e_' (.bool ((I ((gt D e).1)).isSome)) ?_)))
    by_cases aN : (I ((gt D e).1)).isSome = true
    ·have ea := Zd aN b7
     rw [aN]
     refine e_' (pt_ br 0) (mr_ 27 0 (.int .u64 (((I ((gt D e).1)).getD ((0, 0, 0) : Int × Int × Int)).1)) cc (e_' (pt_ bs 0) (mr_ 27 0 (.int .u64 (ac + ((gt D e).2.1))) bZ (e_' (.bool (decide ((((I ((gt D e).1)).getD ((0, 0, 0) : Int × Int × Int)).1) ≤ (ac + ((gt D e).2.1))))) (e_' (.bool (decide ((((I ((gt D e).1)).getD ((0, 0, 0) : Int × Int × Int)).1) ≤ (ac + ((gt D e).2.1))))) (e_' (.bool (decide ((((I ((gt D e).1)).getD ((0, 0, 0) : Int × Int × Int)).1) ≤ (ac + ((gt D e).2.1))))) ?_))))))
     refine ZO ?_
     obtain rfl := oi_ ea
     exact aP _ _ ⟨ha_, rfl⟩
    have eb := Zj aN b7
    rw [nb aN]
    refine j_' (j_' (j_' (j_' (j_' (e_' (.bool false) (e_' (.bool false) ?_))))))
    refine ZO ?_
    obtain rfl := oi_ eb
    exact aP _ _ ⟨ha_, rfl⟩
   obtain ⟨bF, rfl⟩ := hM
   obtain ⟨β, rfl⟩ := Zo bF
   clear bF
   refine dt _ _ ?_
   refine wb_ (bW) (fun a8 => ?_) fun a8 => ?_
   ·have ec := Zd a8 b5
    refine Zaf (Zq (Zau ?_))
    refine bJ _ _ (g_' ?_)
    obtain ⟨db, ed⟩ := Zc ec
    refine w_' ((e + 1)) (Zs (by have := db; omega)) (q_ (i_ (e + 1)) (Za ?_))
    have dL := (t_ (t_ ab.n Y.n) V.n)
    have dM := (t_ (t_ (t_ (t_ ab.n Y.n) V.n) aa.n) Z.n)
    have dN := (t_ Y.n V.n)
    have cF := (al.djn (ap.lt.le dN))
    have dO := (t_ (t_ (t_ Y.n V.n) aa.n) Z.n)
    have cG := (ak.djn (ap.lt.le dO))
    have eq := ((((((ap.ext Y).fr V (au.djn ap.lt)).ext aa).fr Z cF).ext ah).fr ai cG)
    have bQ := (t_ (t_ (t_ (t_ (t_ (t_ ag.n ad.n) ae.n) O.n) ab.n) Y.n) V.n)
    have cH := (al.djn (ao.ltF.le bQ))
    have bR := (t_ (t_ (t_ (t_ (t_ (t_ (t_ (t_ ag.n ad.n) ae.n) O.n) ab.n) Y.n) V.n) aa.n) Z.n)
    have cI := (ak.djn (ao.ltF.le bR))
    have es := ((((bm.ext aa).frS Z cH).ext ah).frS ai cI)
    have cJ := (al.djn (am.ltF.le bQ))
    have cK := (ak.djn (am.ltF.le bR))
    have et := ((((aY.ext aa).frS Z cJ).ext ah).frS ai cK)
    obtain rfl := oi_ ed
    exact bK bU _ _ lt_ ⟨aJ, I, (e + 1), (.slice bq bV bu), aG, ba, ha_, (fs_ O.wf ((fs_ O.wf ((fs_ O.wf ((fs_ O.wf (fr_ O.wf) ab ir_).extR Y) V (au.fresh ab.n)).extR aa) Z (al.fresh dL)).extR ah) ai (ak.fresh dM)), eq, es, et, (Inn.trans ir_ (Nat.le_refl _) ax)⟩
   have ee := ZQ a8 b5
   refine Zi (dr _ _ (g_' (q_ (pt_ U 0) (q_ (pt_ aF 0) ?_))))
   have dP := (t_ (t_ V.n aa.n) Z.n)
   have cL := (ak.djn (aU.ltF.le dP))
   have eu := ((bn.ext ah).frS ai cL)
   refine lr_ 3 0 (i_ ((gt D e).1)) eu (lr_ 110 0 (.agg #[.int .u64 (ac + ((gt D e).2.1)), i_ (hops + 1), i_ 0]) bZ ?_)
   have cM := (au.djn (aA.lt.le aQ))
   have aR := (t_ (t_ (t_ (t_ (t_ (t_ ag.n ad.n) ae.n) O.n) ab.n) Y.n) V.n)
   have cN := (al.djn (aA.lt.le aR))
   have aS := (t_ (t_ (t_ (t_ (t_ (t_ (t_ (t_ ag.n ad.n) ae.n) O.n) ab.n) Y.n) V.n) aa.n) Z.n)
   have cO := (ak.djn (aA.lt.le aS))
   have ew := ((((((((cf.fr O dn_).fr ab (Dj.app bA (Dj.app a2 bC))).ext Y).fr V cM).ext aa).fr Z cN).ext ah).fr ai cO)
   have cP := (au.djn (az.ltF.le aQ))
   have cQ := (al.djn (az.ltF.le aR))
   have cR := (ak.djn (az.ltF.le aS))
   have ex := ((((((((cg.frS O dn_).frS ab (Dj.app bz (Dj.app a1 bB))).ext Y).frS V cP).ext aa).frS Z cQ).ext ah).frS ai cR)
   have dQ := (t_ Y.n V.n)
   have cS := (al.djn (ap.lt.le dQ))
   have dR := (t_ (t_ (t_ Y.n V.n) aa.n) Z.n)
   have cT := (ak.djn (ap.lt.le dR))
   have ey := ((((((ap.ext Y).fr V (au.djn ap.lt)).ext aa).fr Z cS).ext ah).fr ai cT)
   have cU := (al.djn (ao.ltF.le aR))
   have cV := (ak.djn (ao.ltF.le aS))
   have ez := ((((bm.ext aa).frS Z cU).ext ah).frS ai cV)
   have cW := (al.djn (am.ltF.le aR))
   have cX := (ak.djn (am.ltF.le aS))
   have eA := ((((aY.ext aa).frS Z cW).ext ah).frS ai cX)
   have aT := (t_ (t_ (t_ ag.n ad.n) ae.n) O.n)
   have cY := (ax.dj c5 (ao.ltF.le aT))
   have cZ := (ax.dj c4 (am.ltF.le aT))
   have c0 := (ax.dj bC (aA.lt.le aT))
   have c3 := (ax.dj bB (az.ltF.le aT))
   obtain ⟨ch, dg, ef⟩ := bs_ ee
   refine ck_ (ZdH ai.wf ew ex ey ez eA a2 a1 (Dj.symm cY) bw cZ c0 bA c3 bz dg) ?_
   rintro _ eO ⟨eQ, c9, rfl, c6, dC, bL, dD, di⟩
   obtain ⟨ck, dS, cn, rfl⟩ := bL.form
   refine Za (bJ _ _ (g_' ?_))
   obtain ⟨dc, eh⟩ := Zc ef
   refine w_' ((e + 1)) (Zs (by have := dc; omega)) (q_ (i_ (e + 1)) (Za ?_))
   have dT := (t_ (t_ ab.n Y.n) V.n)
   have dU := (t_ (t_ (t_ (t_ ab.n Y.n) V.n) aa.n) Z.n)
   have dV := (t_ (t_ (t_ (t_ (t_ (t_ ab.n Y.n) V.n) aa.n) Z.n) ah.n) ai.n)
   obtain rfl := oi_ eh
   exact bK bU _ _ lt_ ⟨ch.2, ch.1, (e + 1), (.slice ck dS cn), c9, ba, ha_, (fs_ O.wf (fs_ O.wf ((fs_ O.wf ((fs_ O.wf ((fs_ O.wf (fr_ O.wf) ab ir_).extR Y) V (au.fresh ab.n)).extR aa) Z (al.fresh dT)).extR ah) ai (ak.fresh dU)) c6 (Inn.app Inn.left (Inn.app (Inn.right Inn.left) (Inn.trans (Inn.right (Inn.right ir_)) (Nat.le_refl _) ax)))), bL, dC, dD, (Inn.trans (Inn.trans ir_ (Nat.le_refl _) ax) dV di)⟩
  have ej := Zj aH aI
  refine Zaf (Zq (Zq (Zau ?_)))
  obtain rfl := oi_ ej
  obtain rfl := ZL ba
  exact dz _ _ ⟨(.slice bq bV bu), aG, trivial, (fs_ O.wf (fr_ O.wf) ab ir_), bN, ap, bO, (Inn.trans ir_ (Nat.le_refl _) ax)⟩
 obtain ⟨bh, aL, bG, c8, dE, bM, dF, dk⟩ := hM
 obtain ⟨β, rfl⟩ := Zo bG
 clear bG
 obtain ⟨cm, dW, co, rfl⟩ := bM.form
 refine Zek (vs := []) (rfl) ?_
 have dX := (t_ (t_ (t_ ag.n ad.n) ae.n) O.n)
 obtain rfl := oi_ en
 exact ⟨(.slice cm dW co), aL, rfl, (fs_ aw (fs_ aw (fs_ aw (fs_ aw ((fr_ aw).extR ag) ad (an.fresh (Nat.le_refl _))) ae (Inn.right Inn.left)) O in_) c8 ir_), dE, bM, dF, (Inn.trans ir_ dX dk)⟩
theorem Zfs {H : AH} {I : Nat} {af : Nat} {a8 : Value} {aC : Fp} {a_ : Value} {ag : Fp} {O : Nat} {aJ : List (Bool × List (Int × Int × Int) × List (Int × Int × Int))} {aK : Int} {aL : Int} {ah : Int} {ai : Int} {bs : List (Int × Int)} {bt : Int -> Option (Int × Int × Int)} {u : Int} {most : Int} {settles : Int} {r : (Int -> Option (Int × Int × Int)) × List (Int × Int)}
    (ae : WF H) (au : Nd Zb 3 H a8 aJ aC []) (ar : Row H af [a8, i_ aK, i_ aL]) (bZ : Ow Zm 2 H a_ bs ag) (av : Ms .i64 Zz H O bt) (aq : Row H I [pt_ af 0, i_ ah, i_ ai, a_, .map (some O)]) (aA : Dj [O] aC) (az : Dj [O] [af]) (a6 : Dj [O] ag) (ao : Dj [O] [I]) (a7 : Dj ag [I]) (aP : Dj ag aC) (ak : Dj [I] aC) (aO : Dj ag [af]) (aj : Dj [I] [af]) (bd : Zbm aJ aK aL ah ai bs bt u most settles = some r) :
    ACalls Tryz.prog 44 #[pt_ I 0, i_ u, .int .u64 most, i_ settles] H fun v H' => ∃ (br : Value) (f6 : Fp), v = .tuple #[] /\ FrS ([I] ++ ([O] ++ ag)) H H' /\ Ms .i64 Zz H' O r.1 /\ Ow Zm 2 H' br r.2 f6 /\ Row H' I [pt_ af 0, i_ ah, i_ ai, br, .map (some O)] /\ Inn ag H f6 := by
 refine ab_ Tryz.func44 ?_
 unfold Zbm at bd
 refine sq_ fun cf => g_' (q_ (pt_ I 0) (q_ (i_ u) (q_ (.agg #[.int .u64 0, i_ 0, i_ 0]) ?_)))
 obtain ⟨bw, b9, cK⟩ := bs_ bd
 refine ck_ (ZdH ae au ar bZ av aq aA az a6 ao a7 aP ak aO aj b9) ?_
 rintro _ ay ⟨c8, f15, rfl, D, cu, bi, cv, ad⟩
 obtain ⟨bD, cC, bI, rfl⟩ := bi.form
 refine Za (cf _ _ (sq_ fun ci => g_' (q_ (i_ settles) (l_' (i_ (max 0 settles)) (Zfz Tryz.prog [i_ 0, i_ settles]) (Zgu _ _) (q_ (i_ 0) (Za (ci _ _ ?_)))))))
 obtain ⟨bz, b8, bq⟩ := bs_ cK
 refine ZP (fun α al => ∃ aG, bz = Sum.inr aG /\ ∃ (aV : Value) (aB : Fp), Has α [] /\ FrS ([I] ++ ([O] ++ f15)) ay al /\ Ms .i64 Zz al O aG.1 /\ Ow Zm 2 al aV aG.2 aB /\ Row al I [pt_ af 0, i_ ah, i_ ai, aV, .map (some O)] /\ Inn f15 ay aB) (fun _ cj => ?_) (fun α al hM => ?_)
 ·refine Zr ?_
  obtain ⟨bm, b6⟩ := ZC.1 b8
  refine Z9 (fun n α am => ∃ (aH : List (Int × Int)), ∃ (aI : Int -> Option (Int × Int × Int)), ∃ (ab : Int), ∃ (aW : Value), ∃ (ap : Fp), ZT (fun zz_ => ZaP aJ aK aL ah ai most settles zz_.1 zz_.2.1 zz_.2.2) n (aH, aI, ab) = some bz /\ Has α [(0, pt_ I 0), (2, .int .u64 most), (16, i_ (max 0 settles)), (17, i_ ab)] /\ FrS ([I] ++ ([O] ++ f15)) ay am /\ Ow Zm 2 am aW aH ap /\ Ms .i64 Zz am O aI /\ Row am I [pt_ af 0, i_ ah, i_ ai, aW, .map (some O)] /\ Inn f15 ay ap) bm ⟨bw.2, bw.1, 0, (.slice bD cC bI), f15, b6, ha_, (fr_ D.wf), bi, cu, cv, ir_⟩ ?_
  rintro bm α am ⟨aH, aI, ab, aW, ap, b5, bc, Z, ax, aE, bk, ac⟩ c7 ck
  obtain ⟨cD, c3, rfl, aw, aS⟩ := ZJ b5
  obtain ⟨β, rfl⟩ := Zo bc
  clear bc
  replace aw : ZaP aJ aK aL ah ai most settles aH aI ab = some c3 := aw
  unfold ZaP at aw
  obtain ⟨bE, cE, bJ, rfl⟩ := ax.form
  refine sq_ fun cm => g_' (q_ (.bool (decide (ab < (max 0 settles)))) (Za (cm _ _ (sq_ fun cn => ?_))))
  refine wc_ (ab < (max 0 settles)) (fun aR => ?_) fun aR => ?_
  ·have cQ := Zd aR aw
   refine Zi (cn _ _ (sq_ fun co => Zr (sq_ fun cp => g_' (q_ (pt_ I 0) ?_))))
   have aZ := (ad.dj aP au.lt)
   have bu := ((au.fr D (Dj.app ak (Dj.app aA aP))).fr Z (Dj.app ak (Dj.app aA aZ)))
   have a1 := (ad.dj aO ar.ltF)
   have bv := ((ar.frS D (Dj.app aj (Dj.app az aO))).frS Z (Dj.app aj (Dj.app az a1)))
   have aM := (ac.dj aZ (au.lt.le D.n))
   have aN := (ac.dj a1 (ar.ltF.le D.n))
   have bT := (ad.dj (Dj.symm a6) av.ltF)
   have an := (ac.dj bT (av.ltF.le D.n))
   have bU := (ad.dj a7 aq.ltF)
   have a2 := (ac.dj bU (aq.ltF.le D.n))
   obtain ⟨e, ca, cR⟩ := bs_ cQ
   refine ck_ (Zfg Z.wf bu bv ax aE bk aM aN an a2 (Dj.symm ao) ak aj ca) ?_
   rintro _ c5 ⟨c_, rfl, U, aT, bl⟩
   obtain ⟨bF, cF, bK, rfl⟩ := aT.form
   refine q_ (.tuple #[i_ e.1, .agg #[.int .u64 e.2.1, i_ e.2.2.1, i_ e.2.2.2.1], .bool e.2.2.2.2.1]) (q_ (i_ e.1) (q_ (.agg #[.int .u64 e.2.1, i_ e.2.2.1, i_ e.2.2.2.1]) (q_ (.bool e.2.2.2.2.1) ?_)))
   refine rk_ U.wf [.int .u64 0, i_ 0, i_ 0] fun aY c6 Y aa cS => ?_
   refine q_ (i_ e.1) ?_
   obtain ⟨bA, cG, V, bo⟩ := ra_ 110 0 Y.wf cS [.int .u64 e.2.1, i_ e.2.2.1, i_ e.2.2.2.1] [.int .u64 e.2.1, i_ e.2.2.1, i_ e.2.2.2.1]
   refine ek_ cG (q_ (.bool e.2.2.2.2.1) (Za (cp _ _ (sq_ fun cg => sq_ fun ch => ?_))))
   obtain ⟨bn, bf, bp⟩ := bs_ cR
   refine ZP (fun α aX => Has α [(0, pt_ I 0), (2, .int .u64 most), (8, i_ e.1), (9, pt_ aY 0), (16, i_ (max 0 settles)), (17, i_ ab), (32, .bool bn)] /\ bA = aX) (fun _ bg => ?_) (fun α aX hM => ?_)
   ·refine g_' (q_ (.bool e.2.2.2.2.1) (q_ (.bool (!e.2.2.2.2.1)) (q_ (.bool (!e.2.2.2.2.1)) ?_)))
    by_cases aD : (!e.2.2.2.2.1) = true
    ·have cH := Zd aD bf
     rw [aD]
     refine n_' (n_' (n_' (n_' (q_ (.bool true) (Za ?_)))))
     obtain rfl := oi_ cH
     exact bg _ _ ⟨ha_, rfl⟩
    have cI := Zj aD bf
    rw [nb aD]
    refine q_ (pt_ aY 0) (lr_ 27 0 (.int .u64 e.2.1) bo (q_ (.int .u64 most) (q_ (.bool (decide (e.2.1 > most))) (q_ (.bool (decide (e.2.1 > most))) (Za ?_)))))
    obtain rfl := oi_ cI
    exact bg _ _ ⟨ha_, rfl⟩
   obtain ⟨ba, rfl⟩ := hM
   obtain ⟨β, rfl⟩ := Zo ba
   clear ba
   refine ch _ _ ?_
   refine wb_ (bn) (fun aQ => ?_) fun aQ => ?_
   ·have cJ := Zd aQ bp
    refine Zf (Zg (Z6 (Zg (Zg (Z6 (Zg ?_))))))
    obtain ⟨da, be, cc⟩ := map_some cJ
    subst cc
    obtain rfl := ZL aS
    have b7 := elim_inl bq
    rw [b7] at be
    refine Zcy (vs := []) (rfl) ?_
    have aU := (t_ (t_ D.n Z.n) U.n)
    have bL := (aa.djn (av.ltF.le aU))
    have cT := (((aE.frS U (Dj.app (Dj.symm ao) an)).ext Y).frS V bL)
    have bM := (aa.djn (ax.lt.le U.n))
    have cU := ((aT.ext Y).fr V bM)
    have bN := (aa.djn (aq.ltF.le aU))
    have cV := ((bl.ext Y).frS V bN)
    obtain rfl := oi_ be
    exact ⟨(.slice bF cF bK), ap, rfl, (fs_ ae ((fs_ ae (fs_ ae (fs_ ae (fr_ ae) D ir_) Z (Inn.app Inn.left (Inn.app (Inn.right Inn.left) (Inn.trans (Inn.right (Inn.right ir_)) (Nat.le_refl _) ad)))) U (Inn.app Inn.left (Inn.trans (Inn.trans (Inn.right (Inn.right ir_)) (Nat.le_refl _) ad) D.n ac))).extR Y) V (aa.fresh aU)), cT, cU, cV, (Inn.trans (Inn.trans ir_ (Nat.le_refl _) ad) D.n ac)⟩
   have cL := ZQ aQ bp
   refine Zi (cg _ _ (g_' (q_ (pt_ I 0) (q_ (i_ e.1) (lr_ 110 0 (.agg #[.int .u64 e.2.1, i_ e.2.2.1, i_ e.2.2.2.1]) bo ?_)))))
   have aF := (t_ (t_ D.n Z.n) U.n)
   have bO := (aa.djn (au.lt.le aF))
   have cW := (((bu.fr U (Dj.app ak aM)).ext Y).fr V bO)
   have bP := (aa.djn (ar.ltF.le aF))
   have cX := (((bv.frS U (Dj.app aj aN)).ext Y).frS V bP)
   have bQ := (aa.djn (ax.lt.le U.n))
   have cY := ((aT.ext Y).fr V bQ)
   have bR := (aa.djn (av.ltF.le aF))
   have cZ := (((aE.frS U (Dj.app (Dj.symm ao) an)).ext Y).frS V bR)
   have bS := (aa.djn (aq.ltF.le aF))
   have c0 := ((bl.ext Y).frS V bS)
   obtain ⟨bx, b_, cM⟩ := bs_ cL
   refine ck_ (ZeA V.wf cW cX cY cZ c0 ao (Dj.symm an) aA az a2 aM ak aN aj an b_) ?_
   rintro _ c4 ⟨c9, bX, rfl, bV, cq, bh, cr, cd⟩
   obtain ⟨bB, cy, bG, rfl⟩ := bh.form
   refine Za (co _ _ (g_' ?_))
   obtain ⟨bY, cN⟩ := Zc cM
   refine w_' ((ab + 1)) (Zs bY) (q_ (i_ (ab + 1)) (Za ?_))
   have cz := (t_ Z.n U.n)
   have cA := (t_ (t_ (t_ Z.n U.n) Y.n) V.n)
   obtain rfl := oi_ cN
   exact ck cD _ _ lt_ ⟨bx.2, bx.1, (ab + 1), (.slice bB cy bG), bX, aS, ha_, (fs_ D.wf (fs_ D.wf ((fs_ D.wf (fs_ D.wf (fr_ D.wf) Z ir_) U (Inn.app Inn.left (Inn.trans (Inn.right (Inn.right ir_)) (Nat.le_refl _) ac))).extR Y) V (aa.fresh cz)) bV (Inn.app Inn.left (Inn.app (Inn.right Inn.left) (Inn.trans (Inn.right (Inn.right ir_)) (Nat.le_refl _) ac)))), bh, cq, cr, (Inn.trans (Inn.trans ir_ (Nat.le_refl _) ac) cA cd)⟩
  have cO := Zj aR aw
  refine Zaf (Zq (Zq (Zau ?_)))
  obtain rfl := oi_ cO
  obtain rfl := ZL aS
  exact cj _ _ ⟨_, rfl, (.slice bE cE bJ), ap, trivial, (fs_ D.wf (fr_ D.wf) Z ir_), aE, ax, bk, (Inn.trans ir_ (Nat.le_refl _) ac)⟩
 obtain ⟨aG, rfl, aV, aB, bb, bW, cw, bj, cx, ce⟩ := hM
 have cP := elim_inr bq
 obtain ⟨β, rfl⟩ := Zo bb
 clear bb
 obtain ⟨bC, cB, bH, rfl⟩ := bj.form
 refine Zek (vs := []) (rfl) ?_
 obtain rfl := oi_ cP
 exact ⟨(.slice bC cB bH), aB, rfl, (fs_ ae (fs_ ae (fr_ ae) D ir_) bW (Inn.app Inn.left (Inn.app (Inn.right Inn.left) (Inn.trans (Inn.right (Inn.right ir_)) (Nat.le_refl _) ad)))), cw, bj, cx, (Inn.trans (Inn.trans ir_ (Nat.le_refl _) ad) D.n ce)⟩
end Go.Vd

/-! (KSx3) -/

set_option maxRecDepth 100000
set_option maxHeartbeats 4000000
set_option linter.unusedVariables false
namespace Go.Vd
open Go.Proofs
attribute [local irreducible] Zh Zk aWp
theorem Zhh {H : AH} {V : Nat} {a_ : Value} {bT : Fp} {ab : Value} {bS : Fp} {aE : List (Bool × List (Int × Int × Int) × List (Int × Int × Int))} {aF : Int} {aG : Int} {u : Int} {skip : Int} {goals : List (Int)} {most : Int} {hops : Int} {settles : Int} {r : List (Int) × Er}
    (Z : WF H) (al : Nd Zb 3 H a_ aE bT []) (ak : Row H V [a_, i_ aF, i_ aG]) (af : Sq (Zeb .i64) 1 H ab goals bS) (bi : Zb7 aE aF aG u skip goals most hops settles = some r) :
    ACalls Tryz.prog 9 #[pt_ V 0, i_ u, i_ skip, ab, .int .u64 most, i_ hops, i_ settles] H fun v H' => ∃ (bz : Value) (aO : Fp) (bC : Value) (aP : Fp), v = .tuple #[bz, bC] /\ FrS [] H H' /\ Ow (Zeb .u64) 1 H' bz r.1 aO /\ Ev 78 116 H' bC r.2 aP /\ Inn [] H aO /\ Inn [] H aP /\ Dj aO aP := by
 refine ab_ Tryz.func9 ?_
 unfold Zb7 at bi
 refine sq_ fun cn => g_' (q_ (.slice none 0 0) (q_ (.nilIface) (Za (cn _ _ (sq_ fun cp => sq_ fun cr => g_' (q_ (pt_ V 0) (q_ (.bool false) (Za (cr _ _ ?_)))))))))
 refine wb_ false (fun h => by cases h) fun _ => ?_
 refine Zi (cp _ _ (sq_ fun cu => sq_ fun cy => g_' (q_ (pt_ V 0) (q_ (i_ u) ?_))))
 obtain ⟨bD, ce, bv⟩ := bs_ bi
 refine ck_ (ZH Z al ak ce) ?_
 rintro _ _ ⟨rfl, rfl⟩
 refine q_ (.bool (!bD)) (Za (cy _ _ ?_))
 refine wb_ ((!bD)) (fun aR => ?_) fun aR => ?_
 ·have dc := Zd aR bv
  refine sq_ fun cC => g_' (q_ (.iface 78 (i_ 7)) (q_ (.slice none 0 0) (q_ (.iface 78 (i_ 7)) (Za (cC _ _ ?_)))))
  refine Zf (Zg ?_)
  refine br_ [.slice none 0 0, .iface 78 (i_ 7)] ?_
  obtain rfl := oi_ dc
  exact ⟨(.slice none 0 0), [], (.iface 78 (i_ 7)), [], rfl, (f0_ Z), (Ow.nil (by decide)), Ev.no, in_, in_, dn_⟩
 have df := ZQ aR bv
 refine Zi (cu _ _ (sq_ fun cE => sq_ fun cF => g_' (q_ (ab) (af.ln_ 26 (q_ (i_ 0) (Za (cF _ _ ?_)))))))
 obtain ⟨bF, cc, bw⟩ := bs_ df
 refine ZP (fun α a2 => ∃ bt, bF = Sum.inr bt /\ Has α [(0, pt_ V 0), (1, i_ u), (2, i_ skip), (3, ab), (4, .int .u64 most), (5, i_ hops), (6, i_ settles)] /\ H = a2) (fun _ cG => ?_) (fun α a2 hM => ?_)
 ·refine Zr ?_
  obtain ⟨br, b9⟩ := ZC.1 cc
  refine Z9 (fun n α a6 => ∃ (I : Int), ZT (fun zz_ => Zbx aE aF aG goals zz_) n I = some bF /\ Has α [(0, pt_ V 0), (1, i_ u), (2, i_ skip), (3, ab), (4, .int .u64 most), (5, i_ hops), (6, i_ settles), (33, ab), (34, i_ (goals.length : Int)), (35, i_ I)] /\ H = a6) br ⟨0, b9, ha_, rfl⟩ ?_
  rintro br α a6 ⟨I, b7, bd, rfl⟩ dM cH
  obtain ⟨cX, dB, rfl, ao, aU⟩ := ZJ b7
  obtain ⟨β, rfl⟩ := Zo bd
  clear bd
  replace ao : Zbx aE aF aG goals I = some dB := ao
  unfold Zbx at ao
  refine sq_ fun cI => g_' (q_ (.bool (decide (I < (goals.length : Int)))) (Za (cI _ _ (sq_ fun cJ => ?_))))
  refine wc_ (I < (goals.length : Int)) (fun aj => ?_) fun aj => ?_
  ·have dg := Zd aj ao
   refine Zi (cJ _ _ (sq_ fun cK => Zr (sq_ fun cL => g_' (q_ (i_ I) ?_))))
   obtain ⟨a8, dh⟩ := Zc dg
   refine af.ix_ 26 a8 aj (le_ 3 0 (i_ (gt goals I)) af a8 aj (q_ (i_ I) (q_ (i_ (gt goals I)) (Za (cL _ _ (sq_ fun cM => g_' (q_ (pt_ V 0) (q_ (i_ (gt goals I)) ?_))))))))
   obtain ⟨bE, cf, bx⟩ := bs_ dh
   refine ck_ (ZH Z al ak cf) ?_
   rintro _ _ ⟨rfl, rfl⟩
   refine q_ (.bool (!bE)) (Za (cM _ _ ?_))
   refine wb_ ((!bE)) (fun aS => ?_) fun aS => ?_
   ·have di := Zd aS bx
    refine sq_ fun cN => g_' (q_ (i_ I) (q_ (.iface 78 (i_ 7)) ?_))
    obtain ⟨d8, cg, dk⟩ := bs_ di
    refine ck_ (ZgZ Z (Ev.no (tf := 116)) cg) ?_
    rintro a1 dI ⟨_, bR, rfl, bO, cT, cj⟩
    refine q_ (.slice none 0 0) (q_ (a1) (Za (cN _ _ ?_)))
    refine Zf (Z6 (Zg (Zg (Z6 (Zg (Zg ?_))))))
    obtain ⟨d7, bj, ch⟩ := map_some dk
    subst ch
    obtain rfl := ZL aU
    have b_ := elim_inl bw
    rw [b_] at bj
    refine br_ [.slice none 0 0, a1] ?_
    obtain rfl := oi_ bj
    exact ⟨(.slice none 0 0), [], (a1), bR, rfl, (fs_ Z (f0_ Z) bO in_), (Ow.nil (by decide)), cT, in_, (cj.fresh (Nat.le_refl _)), dn_⟩
   have dm := ZQ aS bx
   refine Zi (cK _ _ (g_' ?_))
   obtain ⟨bY, dn⟩ := Zc dm
   refine w_' ((I + 1)) (Zs (by have := bY; omega)) (q_ (i_ (I + 1)) (Za ?_))
   obtain rfl := oi_ dn
   exact cH cX _ _ lt_ ⟨(I + 1), aU, ha_, rfl⟩
  have dp := Zj aj ao
  refine Zaf (Zq (Zq (Zau ?_)))
  obtain rfl := oi_ dp
  obtain rfl := ZL aU
  exact cG _ _ ⟨_, rfl, ha_, rfl⟩
 obtain ⟨bt, rfl, bc, rfl⟩ := hM
 have dq := elim_inr bw
 obtain ⟨β, rfl⟩ := Zo bc
 clear bc
 refine cE _ _ (sq_ fun cO => g_' (q_ (pt_ V 0) (q_ (i_ skip) (q_ (i_ hops) ?_))))
 refine s_ms .i64 Zz Z (by kernel_rfl) fun av dJ Y aC bo => ?_
 refine q_ (.agg #[pt_ V 0, i_ skip, i_ hops, .slice none 0 0, .map (some av)]) ?_
 refine rl_ Y.wf [pt_ V 0, i_ skip, i_ hops, .slice none 0 0, .map (some av)] fun ae dK ad am dr => ?_
 refine q_ (pt_ ae 0) (Za (cO _ _ (sq_ fun cP => g_' (q_ (pt_ ae 0) (q_ (i_ u) (q_ (.int .u64 most) (q_ (i_ settles) ?_)))))))
 have dx := ((al.ext Y).ext ad)
 have dy := ((ak.ext Y).ext ad)
 have dz := (bo.ext ad)
 have bH := (am.djn bo.ltF)
 have bI := (am.djn (al.lt.le Y.n))
 have bJ := (am.djn (ak.ltF.le Y.n))
 obtain ⟨D, cd, c3⟩ := bs_ dq
 refine ck_ (Zfs ad.wf dx dy (Ow.nil (enc := Zm) (sz := 2) (by decide)) dz dr (aC.djn al.lt) (aC.djn ak.ltF) Dj.nil_r (Dj.symm bH) dn_ dn_ bI dn_ bJ cd) ?_
 rintro _ aq ⟨d2, dT, rfl, O, cQ, cR, cS, dY⟩
 obtain ⟨dN, dZ, dQ, rfl⟩ := cR.form
 refine Za (cP _ _ (sq_ fun ck => g_' (q_ (.slice none 0 0) (Za (ck _ _ (sq_ fun cm => sq_ fun co => g_' (q_ (ab) ?_)))))))
 have bK := (am.djn (af.lt.le Y.n))
 have bA := (((af.ext Y).ext ad).fr O (Dj.app bK (Dj.app (aC.djn af.lt) dn_)))
 refine bA.ln_ 26 (q_ (i_ 0) (Za (co _ _ ?_)))
 obtain ⟨bs, ca, c4⟩ := bs_ c3
 refine ZP (fun α aH => ∃ (aY : Value) (az : Fp), Has α [(19, aY)] /\ FrS [] aq aH /\ Ow (Zeb .u64) 1 aH aY bs az /\ Inn [] aq az) (fun _ cq => ?_) (fun α aH hM => ?_)
 ·refine Zr ?_
  obtain ⟨bp, b8⟩ := ZC.1 ca
  refine Z9 (fun n α ar => ∃ (ag : List (Int)), ∃ (e : Int), ∃ (aZ : Value), ∃ (aA : Fp), ZT (fun zz_ => Zby goals D zz_.1 zz_.2) n (ag, e) = some bs /\ Has α [(18, pt_ ae 0), (19, aZ), (59, ab), (60, i_ (goals.length : Int)), (61, i_ e)] /\ FrS [] aq ar /\ Ow (Zeb .u64) 1 ar aZ ag aA /\ Inn [] aq aA) bp ⟨[], 0, (.slice none 0 0), [], b8, ha_, (fr_ O.wf), (Ow.nil (by decide)), in_⟩ ?_
  rintro bp α ar ⟨ag, e, aZ, aA, b6, bb, U, ah, ap⟩ dL bk
  obtain ⟨bq, dA, rfl, an, aT⟩ := ZJ b6
  obtain ⟨β, rfl⟩ := Zo bb
  clear bb
  replace an : Zby goals D ag e = some dA := an
  unfold Zby at an
  obtain ⟨aI, aV, aL, rfl⟩ := ah.form
  refine sq_ fun cv => g_' (q_ (.bool (decide (e < (goals.length : Int)))) (Za (cv _ _ (sq_ fun cw => ?_))))
  refine wc_ (e < (goals.length : Int)) (fun ai => ?_) fun ai => ?_
  ·have c5 := Zd ai an
   refine Zi (cw _ _ (sq_ fun bl => Zr (sq_ fun cx => g_' ?_)))
   obtain ⟨a7, bu⟩ := Zc c5
   have bB := (bA.fr U dn_)
   refine bB.ix_ 26 a7 ai (le_ 3 0 (i_ (gt goals e)) bB a7 ai (q_ (i_ (gt goals e)) (Za (cx _ _ (sq_ fun cz => g_' (q_ (.int .u64 18446744073709551615) (Za (cz _ _ (sq_ fun bm => sq_ fun cA => g_' (q_ (pt_ ae 0) (q_ (pt_ ae 0) (q_ (pt_ ae 4) ?_))))))))))))
   have dt := (cS.frS U dn_)
   refine lr_ 103 4 (.map (some av)) dt (q_ (i_ (gt goals e)) ?_)
   have du := (cQ.frS U dn_)
   refine l_' (.tuple #[.agg #[.int .u64 (((D.1 (gt goals e)).getD ((0, 0, 0) : Int × Int × Int)).1), i_ (((D.1 (gt goals e)).getD ((0, 0, 0) : Int × Int × Int)).2.1), i_ (((D.1 (gt goals e)).getD ((0, 0, 0) : Int × Int × Int)).2.2)], .bool ((D.1 (gt goals e)).isSome)]) (Zb9 Tryz.prog 103 (.map (some av)) (i_ (gt goals e)) true ar) (du.look2 ((0, 0, 0) : Int × Int × Int) (zv := .agg #[.int .u64 0, i_ 0, i_ 0]) rfl (by kernel_rfl) (by kernel_rfl) _ rfl) (q_ (.tuple #[.agg #[.int .u64 (((D.1 (gt goals e)).getD ((0, 0, 0) : Int × Int × Int)).1), i_ (((D.1 (gt goals e)).getD ((0, 0, 0) : Int × Int × Int)).2.1), i_ (((D.1 (gt goals e)).getD ((0, 0, 0) : Int × Int × Int)).2.2)], .bool ((D.1 (gt goals e)).isSome)]) (q_ (.agg #[.int .u64 (((D.1 (gt goals e)).getD ((0, 0, 0) : Int × Int × Int)).1), i_ (((D.1 (gt goals e)).getD ((0, 0, 0) : Int × Int × Int)).2.1), i_ (((D.1 (gt goals e)).getD ((0, 0, 0) : Int × Int × Int)).2.2)]) (q_ (.bool ((D.1 (gt goals e)).isSome)) ?_)))
   refine rk_ U.wf [.int .u64 0, i_ 0, i_ 0] fun bG dC ac aB c6 => ?_
   obtain ⟨dD, cY, aa, c7⟩ := ra_ 110 0 ac.wf c6 [.int .u64 (((D.1 (gt goals e)).getD ((0, 0, 0) : Int × Int × Int)).1), i_ (((D.1 (gt goals e)).getD ((0, 0, 0) : Int × Int × Int)).2.1), i_ (((D.1 (gt goals e)).getD ((0, 0, 0) : Int × Int × Int)).2.2)] [.int .u64 (((D.1 (gt goals e)).getD ((0, 0, 0) : Int × Int × Int)).1), i_ (((D.1 (gt goals e)).getD ((0, 0, 0) : Int × Int × Int)).2.1), i_ (((D.1 (gt goals e)).getD ((0, 0, 0) : Int × Int × Int)).2.2)]
   refine ek_ cY (q_ (.bool ((D.1 (gt goals e)).isSome)) (Za (cA _ _ (sq_ fun cB => g_' (q_ (.bool ((D.1 (gt goals e)).isSome)) (Za (cB _ _ ?_)))))))
   refine wb_ ((D.1 (gt goals e)).isSome) (fun aQ => ?_) fun aQ => ?_
   ·have c8 := Zd aQ bu
    refine g_' (q_ (pt_ bG 0) (lr_ 27 0 (.int .u64 (((D.1 (gt goals e)).getD ((0, 0, 0) : Int × Int × Int)).1)) c7 (q_ (.int .u64 (((D.1 (gt goals e)).getD ((0, 0, 0) : Int × Int × Int)).1)) (Za (bm _ _ (g_' (q_ (.slice aI aV aL) (q_ (.int .u64 (((D.1 (gt goals e)).getD ((0, 0, 0) : Int × Int × Int)).1)) ?_))))))))
    refine Zcz (enc := (Zeb .u64)) (sz := 1) aa.wf [((D.1 (gt goals e)).getD ((0, 0, 0) : Int × Int × Int)).1] 1 (by decide) (fun _ _ => rfl) (fun _ _ => rfl) rfl (by kernel_rfl) fun d3 dU dE ax dW be => ?_
    obtain ⟨dO, d0, dR, rfl⟩ := be.form
    have dv := (((ah.ext ac).fr aa (aB.djn ah.lt)).ext ax)
    obtain ⟨bU, c9⟩ := Zc c8
    obtain ⟨d4, dF, bP, cZ, bM, bf, bZ⟩ := Ow.append (P := Tryz.prog) 8 ax.wf dv be.sq (fun _ _ => rfl) (at_ := #[36, 36]) rfl rfl (by kernel_rfl) (by kernel_rfl) (by decide) (by have := bU; first | omega | (simp only [List.length_cons, List.length_nil] at this ⊢; omega) | (simp at this ⊢; omega))
    obtain ⟨aJ, aW, aM, rfl⟩ := bf.form
    refine ZcJ (.slice aJ aW aM) (by kernel_rfl) (cZ) ?_
    refine q_ (.slice aJ aW aM) (Za (bl _ _ (g_' ?_)))
    obtain ⟨bV, c_⟩ := Zc c9
    refine w_' ((e + 1)) (Zs (by have := bV; omega)) (q_ (i_ (e + 1)) (Za ?_))
    have cU := (t_ (t_ (t_ U.n ac.n) aa.n) ax.n)
    obtain rfl := oi_ c_
    exact bk bq _ _ lt_ ⟨(ag ++ [((D.1 (gt goals e)).getD ((0, 0, 0) : Int × Int × Int)).1]), (e + 1), (.slice aJ aW aM), bP, aT, ha_, (fs_ O.wf ((fs_ O.wf ((fs_ O.wf (fr_ O.wf) U in_).extR ac) aa (aB.fresh U.n)).extR ax) bM (ap.fresh (Nat.le_refl _))), bf, (Inn.trans (ap.fresh (Nat.le_refl _)) cU bZ)⟩
   have da := ZQ aQ bu
   refine Zi (bm _ _ (g_' (q_ (.slice aI aV aL) (q_ (.int .u64 18446744073709551615) ?_))))
   refine Zcz (enc := (Zeb .u64)) (sz := 1) aa.wf [18446744073709551615] 1 (by decide) (fun _ _ => rfl) (fun _ _ => rfl) rfl (by kernel_rfl) fun d5 dV dG ay dX bg => ?_
   obtain ⟨dP, d1, dS, rfl⟩ := bg.form
   have dw := (((ah.ext ac).fr aa (aB.djn ah.lt)).ext ay)
   obtain ⟨bW, db⟩ := Zc da
   obtain ⟨d6, dH, bQ, c0, bN, bh, b5⟩ := Ow.append (P := Tryz.prog) 8 ay.wf dw bg.sq (fun _ _ => rfl) (at_ := #[36, 36]) rfl rfl (by kernel_rfl) (by kernel_rfl) (by decide) (by have := bW; first | omega | (simp only [List.length_cons, List.length_nil] at this ⊢; omega) | (simp at this ⊢; omega))
   obtain ⟨aK, aX, aN, rfl⟩ := bh.form
   refine ZcJ (.slice aK aX aN) (by kernel_rfl) (c0) ?_
   refine q_ (.slice aK aX aN) (Za (bl _ _ (g_' ?_)))
   obtain ⟨bX, dd⟩ := Zc db
   refine w_' ((e + 1)) (Zs (by have := bX; omega)) (q_ (i_ (e + 1)) (Za ?_))
   have cV := (t_ (t_ (t_ U.n ac.n) aa.n) ay.n)
   obtain rfl := oi_ dd
   exact bk bq _ _ lt_ ⟨(ag ++ [18446744073709551615]), (e + 1), (.slice aK aX aN), bQ, aT, ha_, (fs_ O.wf ((fs_ O.wf ((fs_ O.wf (fr_ O.wf) U in_).extR ac) aa (aB.fresh U.n)).extR ay) bN (ap.fresh (Nat.le_refl _))), bh, (Inn.trans (ap.fresh (Nat.le_refl _)) cV b5)⟩
  have de := Zj ai an
  refine Zaf (Zq (Zq (Zau ?_)))
  obtain rfl := oi_ de
  obtain rfl := ZL aT
  exact cq _ _ ⟨(.slice aI aV aL), aA, ha_, (fs_ O.wf (fr_ O.wf) U in_), ah, (ap.fresh (Nat.le_refl _))⟩
 obtain ⟨aY, az, ba, bL, bn, ci⟩ := hM
 obtain ⟨β, rfl⟩ := Zo ba
 clear ba
 obtain ⟨au, aD, aw, rfl⟩ := bn.form
 refine cm _ _ (sq_ fun cD => g_' (q_ (.slice au aD aw) (q_ (.slice au aD aw) (q_ (.nilIface) (Za (cD _ _ ?_))))))
 refine Zf ?_
 refine br_ [.slice au aD aw, .nilIface] ?_
 have cW := (t_ (t_ Y.n ad.n) O.n)
 obtain rfl := oi_ c4
 exact ⟨(.slice au aD aw), az, (.nilIface), [], rfl, (fs_ Z (fs_ Z (((f0_ Z).extR Y).extR ad) O (Inn.app (am.fresh Y.n) (Inn.app (aC.fresh (Nat.le_refl _)) in_))) bL in_), bn, Ev.nil, (ci.fresh cW), in_, Dj.nil_r⟩
theorem Zd2 {H : AH} {e : Int} {O : Int} {I : Int} {D : Int} {r : Int}
    (V : WF H) (U : ZbH e O I D = some r) :
    ACalls Tryz.prog 101 #[.agg #[i_ e, .int .u64 O, i_ I], i_ D] H fun v H' => v = i_ r /\ FrS [] H H' := by
 refine ab_ Tryz.func101 ?_
 unfold ZbH at U
 refine sq_ fun k1 => g_' ?_
 refine rl_ V [i_ e, .int .u64 O, i_ I] fun b2 ab Y ac aa => ?_
 refine q_ (i_ 0) (Za (k1 _ _ (sq_ fun Z => g_' (q_ (pt_ b2 0) (lr_ 3 0 (i_ e) aa (q_ (i_ D) (q_ (i_ (IntKind.i64.wrap (e - D))) (q_ (i_ (IntKind.i64.wrap (e - D))) (Za (Z _ _ ?_))))))))))
 refine Zf ?_
 refine br_ [i_ (IntKind.i64.wrap (e - D))] ?_
 obtain rfl := oi_ U
 exact ⟨rfl, ((f0_ V).extR Y)⟩
theorem ZdW {H : AH} {U : Value} {aA : Fp} {x : List (Int × Int × Int)} {target : Int} {r : Int × Bool}
    (I : WF H) (af : Sq Zb 3 H U x aA) (an : ZaW x target = some r) :
    ACalls Tryz.prog 100 #[U, i_ target, .func (.func 101) #[] #[]] H fun v H' => v = .tuple #[i_ r.1, .bool r.2] /\ FrS [] H H' := by
 refine ab_ Tryz.func100 ?_
 unfold ZaW at an
 refine sq_ fun k1 => g_' (q_ (i_ 0) (q_ (.bool false) (Za (k1 _ _ (sq_ fun k2 => g_' (q_ (U) (af.ln_ 75 (q_ (i_ (x.length : Int)) (Za (k2 _ _ (sq_ fun k3 => g_' (q_ (i_ (x.length : Int)) (q_ (i_ 0) (q_ (i_ (x.length : Int)) (Za (k3 _ _ (sq_ fun aP => ?_)))))))))))))))))
 obtain ⟨O, aH, av⟩ := bs_ an
 refine ZP (fun α ai => Has α [(0, U), (1, i_ target), (2, .func (.func 101) #[] #[]), (8, i_ (x.length : Int)), (9, i_ O)] /\ FrS [] H ai) (fun _ aK => ?_) (fun α ai hM => ?_)
 ·refine Zr ?_
  obtain ⟨aq, aG⟩ := ZC.1 aH
  refine Z9 (fun n α ah => ∃ (D : Int), ∃ (e : Int), ZT (fun zz_ => Zad x target zz_.1 zz_.2) n (D, e) = some O /\ Has α [(0, U), (1, i_ target), (2, .func (.func 101) #[] #[]), (8, i_ (x.length : Int)), (9, i_ e), (10, i_ D)] /\ FrS [] H ah) aq ⟨(x.length : Int), 0, aG, ha_, (f0_ I)⟩ ?_
  rintro aq α ah ⟨D, e, aF, am, V⟩ ba ao
  obtain ⟨ar, a7, rfl, Z, ag⟩ := ZJ aF
  obtain ⟨β, rfl⟩ := Zo am
  clear am
  replace Z : Zad x target D e = some a7 := Z
  unfold Zad at Z
  refine sq_ fun aL => sq_ fun aM => g_' (q_ (i_ e) (q_ (i_ D) (q_ (.bool (decide (e < D))) (Za (aM _ _ ?_)))))
  refine wc_ (e < D) (fun ad => ?_) fun ad => ?_
  ·have aQ := Zd ad Z
   refine Zi (aL _ _ (Zr (sq_ fun aN => g_' (q_ (i_ e) (q_ (i_ D) ?_)))))
   obtain ⟨aB, aR⟩ := Zc aQ
   refine w_' ((e + D)) (Zs aB) ?_
   obtain ⟨aC, aS⟩ := Zc aR
   refine s_w ((e + D)) (k := .u64) (x := (e + D)) (by kernel_rfl) (ZdY aC) ?_
   refine l_' (.int .u64 ((e + D) / 2)) (some (.int .u64 (Int.fdiv (e + D) 2))) (by rw [Int.fdiv_eq_ediv_of_nonneg _ (by decide)]) ?_
   obtain ⟨aD, aT⟩ := Zc aS
   refine w_' (((e + D) / 2)) (Zs aD) (q_ (i_ ((e + D) / 2)) (Za (aN _ _ (sq_ fun aO => g_' (q_ (.func (.func 101) #[] #[]) (q_ (U) (q_ (i_ ((e + D) / 2)) ?_)))))))
   obtain ⟨ab, aU⟩ := Zc aT
   have aw := (af.fr V dn_)
   refine aw.ix_ 75 ab.1 ab.2 (le_ 80 0 (.agg #[i_ ((gt x ((e + D) / 2)).1), .int .u64 ((gt x ((e + D) / 2)).2.1), i_ ((gt x ((e + D) / 2)).2.2)]) aw ab.1 ab.2 (q_ (i_ target) ?_))
   obtain ⟨ay, aI, au⟩ := bs_ aU
   refine ck_ (Zd2 V.wf aI) ?_
   rintro _ a8 ⟨rfl, aj⟩
   refine q_ (.bool (decide (ay < 0))) (Za (aO _ _ ?_))
   refine wc_ (ay < 0) (fun ae => ?_) fun ae => ?_
   ·have aV := Zd ae au
    refine g_' (q_ (i_ ((e + D) / 2)) ?_)
    obtain ⟨aE, aW⟩ := Zc aV
    refine w_' ((((e + D) / 2) + 1)) (Zs (by have := aE; omega)) (q_ (i_ (((e + D) / 2) + 1)) (Za ?_))
    obtain rfl := oi_ aW
    exact ao ar _ _ lt_ ⟨D, (((e + D) / 2) + 1), ag, ha_, (fs_ I (fs_ I (f0_ I) V in_) aj in_)⟩
   have aX := Zj ae au
   refine g_' (q_ (i_ ((e + D) / 2)) (q_ (i_ ((e + D) / 2)) (Za ?_)))
   obtain rfl := oi_ aX
   exact ao ar _ _ lt_ ⟨((e + D) / 2), e, ag, ha_, (fs_ I (fs_ I (f0_ I) V in_) aj in_)⟩
  have aY := Zj ad Z
  refine Zaf (Zq (Zq (Zau ?_)))
  obtain rfl := oi_ aY
  obtain rfl := ZL ag
  exact aK _ _ ⟨ha_, (fs_ I (f0_ I) V in_)⟩
 obtain ⟨al, aa⟩ := hM
 obtain ⟨β, rfl⟩ := Zo al
 clear al
 refine aP _ _ (sq_ fun ap => g_' (q_ (i_ O) (q_ (i_ O) (q_ (i_ (x.length : Int)) ?_))))
 refine sb_ (O < (x.length : Int)) (fun Y => ?_) fun Y => ?_
 ·have aZ := Zd Y av
  refine q_ (.bool true) (q_ (.func (.func 101) #[] #[]) (q_ (U) (q_ (i_ O) ?_)))
  obtain ⟨ak, a1⟩ := Zc aZ
  have ax := (af.fr aa dn_)
  refine ax.ix_ 75 ak Y (le_ 80 0 (.agg #[i_ ((gt x O).1), .int .u64 ((gt x O).2.1), i_ ((gt x O).2.2)]) ax ak Y (q_ (i_ target) ?_))
  obtain ⟨ac, aJ, a2⟩ := bs_ a1
  refine ck_ (Zd2 aa.wf aJ) ?_
  rintro _ a_ ⟨rfl, az⟩
  refine q_ (.bool (decide (ac = 0))) (q_ (.bool (decide (ac = 0))) (q_ (i_ O) (q_ (.bool (decide (ac = 0))) (Za (ap _ _ ?_)))))
  refine Zf ?_
  refine br_ [i_ O, .bool (decide (ac = 0))] ?_
  obtain rfl := oi_ a2
  exact ⟨rfl, (fs_ I (fs_ I (f0_ I) aa in_) az in_)⟩
 have a6 := Zj Y av
 refine q_ (.bool false) (n_' (n_' (n_' (n_' (n_' (n_' (n_' (n_' (q_ (.bool false) (q_ (i_ O) (q_ (.bool false) (Za (ap _ _ ?_)))))))))))))
 refine Zf ?_
 refine br_ [i_ O, .bool false] ?_
 obtain rfl := oi_ a6
 exact ⟨rfl, (fs_ I (f0_ I) aa in_)⟩
theorem Zdt {H : AH} {D : Value} {Y : Fp} {l : List (Int × Int × Int)} {I : Int} {r : Int × Bool}
    (O : WF H) (Z : Sq Zb 3 H D l Y) (U : Zbc l I = some r) :
    ACalls Tryz.prog 85 #[D, i_ I] H fun v H' => v = .tuple #[i_ r.1, .bool r.2] /\ FrS [] H H' := by
 refine ab_ Tryz.func85 ?_
 unfold Zbc at U
 refine sq_ fun k1 => g_' (q_ (i_ 0) (q_ (.bool false) (Za (k1 _ _ (sq_ fun k2 => g_' (q_ (D) (q_ (i_ I) ?_)))))))
 obtain ⟨e, aa, ab⟩ := bs_ U
 refine ck_ (ZdW O Z aa) ?_
 rintro _ ac ⟨rfl, V⟩
 refine q_ (i_ e.1) (q_ (.bool e.2) (q_ (i_ e.1) (q_ (.bool e.2) (Za (k2 _ _ ?_)))))
 refine Zf ?_
 refine br_ [i_ e.1, .bool e.2] ?_
 obtain rfl := oi_ ab
 exact ⟨rfl, (fs_ O (f0_ O) V in_)⟩
theorem ZcD {H : AH} {O : Nat} {I : Value} {ae : Fp} {U : List (Bool × List (Int × Int × Int) × List (Int × Int × Int))} {an : Int} {ao : Int} {u : Int} {w : Int} {r : Int × Bool}
    (V : WF H) (Z : Nd Zb 3 H I U ae []) (ah : Row H O [I, i_ an, i_ ao]) (al : Zae U an ao u w = some r) :
    ACalls Tryz.prog 61 #[pt_ O 0, i_ u, i_ w] H fun v H' => v = .tuple #[.int .u64 r.1, .bool r.2] /\ FrS [] H H' := by
 refine ab_ Tryz.func61 ?_
 unfold Zae at al
 refine sq_ fun k1 => g_' (q_ (.int .u64 0) (q_ (.bool false) (Za (k1 _ _ (sq_ fun k2 => sq_ fun k3 => g_' (q_ (pt_ O 0) (q_ (i_ u) ?_)))))))
 obtain ⟨ar, aB, aq⟩ := bs_ al
 refine ck_ (ZH V Z ah aB) ?_
 rintro _ _ ⟨rfl, rfl⟩
 refine q_ (.bool (!ar)) (Za (k3 _ _ ?_))
 refine wb_ ((!ar)) (fun ag => ?_) fun ag => ?_
 ·have aJ := Zd ag aq
  refine sq_ fun aC => g_' (q_ (.int .u64 0) (q_ (.bool false) (Za (aC _ _ ?_))))
  refine Zf (Zg ?_)
  refine br_ [.int .u64 0, .bool false] ?_
  obtain rfl := oi_ aJ
  exact ⟨rfl, (f0_ V)⟩
 have aK := ZQ ag aq
 refine Zi (k2 _ _ (sq_ fun aD => g_' (q_ (pt_ O 0) (q_ (pt_ O 0) (q_ (pt_ O 0) (lr_ 123 0 (I) ah (q_ (i_ u) ?_)))))))
 obtain ⟨D, aL⟩ := Zc aK
 refine Z.ix_ 123 D.1 D.2 (l_' (elp I 3 u.toNat 1) (Zv Tryz.prog 138 (elp I 3 u.toNat 0) 1) (Nd.fldq (d := 1) Z D.1 D.2 (by kernel_rfl)) ?_)
 obtain ⟨aP, aS, ay, aw⟩ := Nd.at Z D.1 D.2
 have am : KdS Zb 3 H aP ((gt U u).2.1) ae I 3 u.toNat 1 := aw false (by simp)
 obtain ⟨au, aI, av, rfl⟩ := am.sq.form
 refine l_' (.slice au aI av) (aL_ 75 (elp I 3 u.toNat 1) H) (ay _ _ _ _ (by kernel_rfl)) (q_ (i_ w) ?_)
 obtain ⟨e, aA, ap⟩ := bs_ aL
 refine ck_ (Zdt V am.sq aA) ?_
 rintro _ ak ⟨rfl, aa⟩
 refine q_ (.tuple #[i_ e.1, .bool e.2]) (q_ (i_ e.1) (q_ (.bool e.2) (q_ (i_ e.1) (q_ (.bool e.2) (Za (aD _ _ (sq_ fun aE => sq_ fun aF => g_' (q_ (.bool e.2) (q_ (.bool (!e.2)) (Za (aF _ _ ?_)))))))))))
 refine wb_ ((!e.2)) (fun af => ?_) fun af => ?_
 ·have aM := Zd af ap
  refine sq_ fun aG => g_' (q_ (.int .u64 0) (q_ (.bool false) (Za (aG _ _ ?_))))
  refine Zf (Zg ?_)
  refine br_ [.int .u64 0, .bool false] ?_
  obtain rfl := oi_ aM
  exact ⟨rfl, (fs_ V (f0_ V) aa in_)⟩
 have aN := ZQ af ap
 refine Zi (aE _ _ (sq_ fun aH => g_' (q_ (pt_ O 0) (q_ (pt_ O 0) (q_ (pt_ O 0) ?_)))))
 have aQ := (ah.frS aa dn_)
 refine lr_ 123 0 (I) aQ (q_ (i_ u) ?_)
 have aj := (Z.fr aa dn_)
 refine aj.ix_ 123 D.1 D.2 (l_' (elp I 3 u.toNat 1) (Zv Tryz.prog 138 (elp I 3 u.toNat 0) 1) (Nd.fldq (d := 1) aj D.1 D.2 (by kernel_rfl)) ?_)
 obtain ⟨aR, aT, az, ax⟩ := Nd.at aj D.1 D.2
 have ab : KdS Zb 3 ak aR ((gt U u).2.1) ae I 3 u.toNat 1 := ax false (by simp)
 obtain ⟨ac, ai, ad, rfl⟩ := ab.sq.form
 refine l_' (.slice ac ai ad) (aL_ 75 (elp I 3 u.toNat 1) ak) (az _ _ _ _ (by kernel_rfl)) (q_ (i_ e.1) ?_)
 obtain ⟨Y, aO⟩ := Zc aN
 refine ab.sq.ix_ 75 Y.1 Y.2 (l_' (elp (.slice ac ai ad) 3 e.1.toNat 1) (Zv Tryz.prog 80 (elp (.slice ac ai ad) 3 e.1.toNat 0) 1) (Sq.fldq (d := 1) ab.sq Y.1 Y.2 (by kernel_rfl)) (le_ 27 1 (.int .u64 ((gt ((gt U u).2.1) e.1).2.1)) ab.sq Y.1 Y.2 (q_ (.int .u64 ((gt ((gt U u).2.1) e.1).2.1)) (q_ (.bool true) (Za (aH _ _ ?_))))))
 refine Zf ?_
 refine br_ [.int .u64 ((gt ((gt U u).2.1) e.1).2.1), .bool true] ?_
 obtain rfl := oi_ aO
 exact ⟨rfl, (fs_ V (f0_ V) aa in_)⟩
theorem ZhL {H : AH} {aq : Nat} {cf : Value} {dd : Fp} {a_ : Value} {de : Fp} {bd : List (Bool × List (Int × Int × Int) × List (Int × Int × Int))} {be : Int} {bf : Int} {ad : Int} {Y : Int} {bl : Int} {aS : Int} {out : List (Int × Int × Int)} {hops : Int} {settles : Int} {r : List (Int × Int × Int)}
    (aj : WF H) (ce : Nd Zb 3 H cf bd dd []) (cd : Row H aq [cf, i_ be, i_ bf]) (dw : Sq Zb 3 H a_ out de) (cw : Zco bd be bf ad Y bl aS out hops settles = some r) :
    ACalls Tryz.prog 52 #[pt_ aq 0, .agg #[i_ ad, .int .u64 Y, i_ bl], i_ aS, a_, i_ hops, i_ settles] H fun v H' => ∃ (cQ : Value) (b_ : Fp), v = cQ /\ FrS [] H H' /\ Ow Zw 3 H' cQ r b_ /\ Inn [] H b_ := by
 refine ab_ Tryz.func52 ?_
 unfold Zco at cw
 refine sq_ fun d4 => g_' ?_
 refine rl_ aj [i_ ad, .int .u64 Y, i_ bl] fun ap aw V fS bg => ?_
 refine q_ (.slice none 0 0) (Za (d4 _ _ (sq_ fun dJ => g_' (q_ (.slice none 0 0) (Za (dJ _ _ (sq_ fun dK => g_' (q_ (.slice none 0 0) (Za (dK _ _ (sq_ fun dL => g_' (q_ (.int .u64 0) (Za (dL _ _ (sq_ fun dM => sq_ fun dP => g_' (q_ (a_) ?_))))))))))))))))
 have cT := (dw.ext V)
 refine cT.ln_ 75 (q_ (i_ 0) (Za (dP _ _ ?_)))
 obtain ⟨D, dD, cK⟩ := bs_ cw
 refine ZP (fun α aU => ∃ (bT : Value) (f27 : Fp) (bU : Value) (a6 : Fp), Has α [(0, pt_ aq 0), (2, i_ aS), (4, i_ hops), (5, i_ settles), (7, pt_ ap 0), (13, bT), (14, bU), (15, .int .u64 D.2.2)] /\ FrS [] aw aU /\ Ow Zw 3 aU bT D.1 f27 /\ Ow (Zeb .i64) 1 aU bU D.2.1 a6 /\ Inn [] aw f27 /\ Inn [] aw a6 /\ Dj f27 a6) (fun _ d1 => ?_) (fun α aU hM => ?_)
 ·refine Zr ?_
  obtain ⟨cG, dC⟩ := ZC.1 dD
  refine Z9 (fun n α aV => ∃ (open0 : List (Int × Int × Int)), ∃ (goals1 : List (Int)), ∃ (most2 : Int), ∃ (I : Int), ∃ (bV : Value), ∃ (aB : Fp), ∃ (bW : Value), ∃ (f48 : Fp), ZT (fun zz_ => Zbg ad Y out zz_.1 zz_.2.1 zz_.2.2.1 zz_.2.2.2) n (open0, goals1, most2, I) = some D /\ Has α [(0, pt_ aq 0), (2, i_ aS), (4, i_ hops), (5, i_ settles), (7, pt_ ap 0), (13, bV), (14, bW), (15, .int .u64 most2), (25, a_), (26, i_ (out.length : Int)), (27, i_ I)] /\ FrS [] aw aV /\ Ow Zw 3 aV bV open0 aB /\ Ow (Zeb .i64) 1 aV bW goals1 f48 /\ Inn [] aw aB /\ Inn [] aw f48 /\ Dj aB f48) cG ⟨[], [], 0, 0, (.slice none 0 0), [], (.slice none 0 0), [], dC, ha_, (fr_ V.wf), (Ow.nil (by decide)), (Ow.nil (by decide)), in_, in_, dn_⟩ ?_
  rintro cG α aV ⟨open0, goals1, most2, I, bV, aB, bW, f48, dA, cm, ag, au, av, ba, aM, aY⟩ fB cy
  obtain ⟨cH, z55, rfl, aL, bG⟩ := ZJ dA
  obtain ⟨β, rfl⟩ := Zo cm
  clear cm
  replace aL : Zbg ad Y out open0 goals1 most2 I = some z55 := aL
  unfold Zbg at aL
  obtain ⟨bq, bN, bw, rfl⟩ := au.form
  obtain ⟨br, bO, bx, rfl⟩ := av.form
  refine sq_ fun d5 => g_' (q_ (.bool (decide (I < (out.length : Int)))) (Za (d5 _ _ (sq_ fun d6 => ?_))))
  refine wc_ (I < (out.length : Int)) (fun aJ => ?_) fun aJ => ?_
  ·have eT := Zd aJ aL
   refine Zi (d6 _ _ (sq_ fun cz => Zr (sq_ fun d7 => g_' ?_)))
   obtain ⟨cc, cP⟩ := Zc eT
   have cX := (cT.fr ag dn_)
   refine cX.ix_ 75 cc aJ (le_ 80 0 (.agg #[i_ ((gt out I).1), .int .u64 ((gt out I).2.1), i_ ((gt out I).2.2)]) cX cc aJ ?_)
   refine rk_ ag.wf [i_ 0, .int .u64 0, i_ 0] fun aG fx ah an eU => ?_
   obtain ⟨fy, eo, ai, bQ⟩ := ra_ 80 0 ah.wf eU [i_ ((gt out I).1), .int .u64 ((gt out I).2.1), i_ ((gt out I).2.2)] [i_ ((gt out I).1), .int .u64 ((gt out I).2.1), i_ ((gt out I).2.2)]
   refine ek_ eo (Za (d7 _ _ (sq_ fun d8 => sq_ fun d9 => g_' (q_ (pt_ aG 0) (lr_ 3 0 (i_ ((gt out I).1)) bQ (q_ (pt_ ap 0) ?_))))))
   have c6 := (an.djn (bg.ltF.le ag.n))
   have cY := (((bg.frS ag dn_).ext ah).frS ai c6)
   refine lr_ 3 0 (i_ ad) cY (q_ (.bool (decide (((gt out I).1) = ad))) (Za (d9 _ _ ?_)))
   refine wc_ (((gt out I).1) = ad) (fun bE => ?_) fun bE => ?_
   ·have eV := Zd bE cP
    refine Zaf (Zq (Zau ?_))
    refine cz _ _ (g_' ?_)
    obtain ⟨dv, eW⟩ := Zc eV
    refine w_' ((I + 1)) (Zs (by have := dv; omega)) (q_ (i_ (I + 1)) (Za ?_))
    have e_ := ((au.ext ah).fr ai (an.djn au.lt))
    have fa := ((av.ext ah).fr ai (an.djn av.lt))
    obtain rfl := oi_ eW
    exact cy cH _ _ lt_ ⟨open0, goals1, most2, (I + 1), (.slice bq bN bw), aB, (.slice br bO bx), f48, bG, ha_, (fs_ V.wf ((fs_ V.wf (fr_ V.wf) ag in_).extR ah) ai (an.fresh ag.n)), e_, fa, (ba.fresh (Nat.le_refl _)), (aM.fresh (Nat.le_refl _)), aY⟩
   have eX := Zj bE cP
   refine Zi (d8 _ _ (sq_ fun d_ => g_' (q_ (.slice br bO bx) (q_ (pt_ aG 0) (lr_ 3 0 (i_ ((gt out I).1)) bQ ?_)))))
   refine Zcz (enc := (Zeb .i64)) (sz := 1) ai.wf [(gt out I).1] 1 (by decide) (fun _ _ => rfl) (fun _ _ => rfl) rfl (by kernel_rfl) fun gd fR fz al fT cn => ?_
   obtain ⟨fC, f1, fG, rfl⟩ := cn.form
   have eZ := (((av.ext ah).fr ai (an.djn av.lt)).ext al)
   obtain ⟨df, ep⟩ := Zc eX
   obtain ⟨f5, fd, c_, ej, az, bF, cg⟩ := Ow.append (P := Tryz.prog) 8 al.wf eZ cn.sq (fun _ _ => rfl) (at_ := #[26, 26]) rfl rfl (by kernel_rfl) (by kernel_rfl) (by decide) (by have := df; first | omega | (simp only [List.length_cons, List.length_nil] at this ⊢; omega) | (simp at this ⊢; omega))
   obtain ⟨bm, bJ, bs, rfl⟩ := bF.form
   refine ZcJ (.slice bm bJ bs) (by kernel_rfl) (ej) ?_
   refine q_ (.slice bm bJ bs) (Za (d_ _ _ (sq_ fun dI => g_' (q_ (.int .u64 most2) (q_ (pt_ ap 1) ?_)))))
   have bX := ((cY.ext al).frS az (aM.djn bg.ltF))
   refine lr_ 27 1 (.int .u64 Y) bX (q_ (pt_ aG 1) ?_)
   have cZ := (an.djn av.lt)
   have bY := ((bQ.ext al).frS az (Dj.symm cZ))
   refine lr_ 27 1 (.int .u64 ((gt out I).2.1)) bY ?_
   obtain ⟨dg, eq⟩ := Zc ep
   refine s_w ((Y + ((gt out I).2.1))) (k := .u64) (x := (Y + ((gt out I).2.1))) (by kernel_rfl) (ZdY dg) ?_
   refine l_' (.int .u64 (max most2 (Y + ((gt out I).2.1)))) (Zfz Tryz.prog [.int .u64 most2, .int .u64 (Y + ((gt out I).2.1))]) (Zgu _ _) (q_ (.int .u64 (max most2 (Y + ((gt out I).2.1)))) (Za (dI _ _ (g_' (q_ (.slice bq bN bw) (q_ (pt_ ap 0) (lr_ 3 0 (i_ ad) bX (q_ (pt_ aG 0) (lr_ 3 0 (i_ ((gt out I).1)) bY (q_ (pt_ ap 1) (lr_ 27 1 (.int .u64 Y) bX (q_ (pt_ aG 1) (lr_ 27 1 (.int .u64 ((gt out I).2.1)) bY ?_)))))))))))))
   obtain ⟨dh, es⟩ := Zc eq
   refine s_w ((Y + ((gt out I).2.1))) (k := .u64) (x := (Y + ((gt out I).2.1))) (by kernel_rfl) (ZdY (by have := dh; omega)) ?_
   refine q_ (.agg #[i_ ad, i_ ((gt out I).1), .int .u64 (Y + ((gt out I).2.1))]) ?_
   refine Zcz (enc := Zw) (sz := 3) az.wf [(ad, (gt out I).1, (Y + ((gt out I).2.1)))] 1 (by decide) (fun _ _ => rfl) (fun _ _ => rfl) rfl (by kernel_rfl) fun f7 fM ff aA fU co => ?_
   obtain ⟨fD, f2, fH, rfl⟩ := co.form
   have e0 := (((((au.ext ah).fr ai (an.djn au.lt)).ext al).fr az (Dj.symm aY)).ext aA)
   obtain ⟨di, et⟩ := Zc es
   obtain ⟨f8, fg, da, ek, b9, cp, ch⟩ := Ow.append (P := Tryz.prog) 24 aA.wf e0 co.sq (fun _ _ => rfl) (at_ := #[54, 54]) rfl rfl (by kernel_rfl) (by kernel_rfl) (by decide) (by have := di; first | omega | (simp only [List.length_cons, List.length_nil] at this ⊢; omega) | (simp at this ⊢; omega))
   obtain ⟨bn, bK, bt, rfl⟩ := cp.form
   refine ZcJ (.slice bn bK bt) (by kernel_rfl) (ek) ?_
   refine q_ (.slice bn bK bt) (Za (cz _ _ (g_' ?_)))
   obtain ⟨dk, eu⟩ := Zc et
   refine w_' ((I + 1)) (Zs (by have := dk; omega)) (q_ (i_ (I + 1)) (Za ?_))
   have eb := (t_ (t_ ah.n ai.n) al.n)
   have b8 := (cg.dj (Dj.symm aY) (au.lt.le eb))
   have e1 := ((bF.ext aA).fr b9 (Dj.symm b8))
   have ec := (t_ (t_ (t_ (t_ (t_ ag.n ah.n) ai.n) al.n) az.n) aA.n)
   have ed := (t_ (t_ (t_ ag.n ah.n) ai.n) al.n)
   have c0 := (ch.dj (Dj.symm b8) (bF.lt.le aA.n))
   obtain rfl := oi_ eu
   exact cy cH _ _ lt_ ⟨(open0 ++ [(ad, (gt out I).1, (Y + ((gt out I).2.1)))]), (goals1 ++ [(gt out I).1]), (max most2 (Y + ((gt out I).2.1))), (I + 1), (.slice bn bK bt), da, (.slice bm bJ bs), c_, bG, ha_, (fs_ V.wf ((fs_ V.wf ((fs_ V.wf ((fs_ V.wf (fr_ V.wf) ag in_).extR ah) ai (an.fresh ag.n)).extR al) az (aM.fresh (Nat.le_refl _))).extR aA) b9 (ba.fresh (Nat.le_refl _))), cp, e1, (Inn.trans (ba.fresh (Nat.le_refl _)) ec ch), (Inn.trans (aM.fresh (Nat.le_refl _)) ed cg), c0⟩
  have ew := Zj aJ aL
  refine Zaf (Zq (Zq (Zau ?_)))
  obtain rfl := oi_ ew
  obtain rfl := ZL bG
  exact d1 _ _ ⟨(.slice bq bN bw), aB, (.slice br bO bx), f48, ha_, (fs_ V.wf (fr_ V.wf) ag in_), au, av, (ba.fresh (Nat.le_refl _)), (aM.fresh (Nat.le_refl _)), aY⟩
 obtain ⟨bT, f27, bU, a6, ck, ak, cB, bI, fZ, f0, fL⟩ := hM
 obtain ⟨β, rfl⟩ := Zo ck
 clear ck
 obtain ⟨bZ, cC, b6, rfl⟩ := cB.form
 obtain ⟨b5, cD, b7, rfl⟩ := bI.form
 refine dM _ _ (sq_ fun dN => sq_ fun dO => g_' (q_ (.slice b5 cD b7) (bI.sq.ln_ 26 (q_ (.bool (decide ((D.2.1.length : Int) = 0))) (Za (dO _ _ ?_))))))
 refine wc_ ((D.2.1.length : Int) = 0) (fun bz => ?_) fun bz => ?_
 ·have ex := Zd bz cK
  refine sq_ fun dQ => g_' (q_ (.slice none 0 0) (Za (dQ _ _ ?_)))
  refine Zf (Zg ?_)
  refine br_ [.slice none 0 0] ?_
  obtain rfl := oi_ ex
  exact ⟨(.slice none 0 0), [], rfl, (fs_ aj ((f0_ aj).extR V) ak in_), (Ow.nil (by decide)), in_⟩
 have ey := Zj bz cK
 refine Zi (dN _ _ (sq_ fun dR => g_' (q_ (pt_ aq 0) (q_ (pt_ ap 0) ?_))))
 have e2 := (bg.frS ak dn_)
 refine lr_ 3 0 (i_ ad) e2 (q_ (i_ aS) (q_ (.slice b5 cD b7) (q_ (.int .u64 D.2.2) (q_ (i_ hops) (q_ (i_ settles) ?_)))))
 have cR := ((ce.ext V).fr ak dn_)
 have cS := ((cd.ext V).frS ak dn_)
 obtain ⟨bi, dF, cJ⟩ := bs_ ey
 refine ck_ (Zhh ak.wf cR cS bI.sq dF) ?_
 rintro _ aT ⟨f9, fN, bh, fO, rfl, O, bH, ea, fX, fY, fK⟩
 obtain ⟨aE, aP, aH, rfl⟩ := bH.form
 refine q_ (.tuple #[.slice aE aP aH, bh]) (q_ (.slice aE aP aH) (q_ (bh) (q_ (.slice aE aP aH) (q_ (bh) (Za (dR _ _ (sq_ fun dS => sq_ fun cx => g_' (q_ (bh) ?_))))))))
 rcases (ea).cases with ⟨bA, rfl⟩ | ⟨bA, eY, fb, rfl⟩
 ·have ez := Zd bA cJ
  refine q_ (.bool false) (Za (cx _ _ ?_))
  refine wb_ false (fun h => by cases h) fun _ => ?_
  refine Zi (dS _ _ (sq_ fun dT => g_' (q_ (.slice none 0 0) (Za (dT _ _ (sq_ fun dU => sq_ fun dV => g_' (q_ (.slice bZ cC b6) ?_)))))))
  have cU := (cB.fr O dn_)
  refine cU.sq.ln_ 54 (q_ (i_ 0) (Za (dV _ _ ?_)))
  obtain ⟨cI, dE, eA⟩ := bs_ ez
  refine ZP (fun α bj => ∃ (bR : Value) (a2 : Fp), Has α [(20, bR)] /\ FrS [] aT bj /\ Ow Zw 3 bj bR cI a2 /\ Inn [] aT a2) (fun _ dW => ?_) (fun α bj hM => ?_)
  ·refine Zr ?_
   obtain ⟨cE, dB⟩ := ZC.1 dE
   refine Z9 (fun n α bk => ∃ (am : List (Int × Int × Int)), ∃ (e : Int), ∃ (bS : Value), ∃ (ar : Fp), ZT (fun zz_ => Zbe bd be bf D bi zz_.1 zz_.2) n (am, e) = some cI /\ Has α [(0, pt_ aq 0), (18, .slice aE aP aH), (20, bS), (79, .slice bZ cC b6), (80, i_ (D.1.length : Int)), (81, i_ e)] /\ FrS [] aT bk /\ Ow Zw 3 bk bS am ar /\ Inn [] aT ar) cE ⟨[], 0, (.slice none 0 0), [], dB, ha_, (fr_ O.wf), (Ow.nil (by decide)), in_⟩ ?_
   rintro cE α bk ⟨am, e, bS, ar, dz, cj, U, af, ao⟩ fA aN
   obtain ⟨aQ, fc, rfl, aK, aC⟩ := ZJ dz
   obtain ⟨β, rfl⟩ := Zo cj
   clear cj
   replace aK : Zbe bd be bf D bi am e = some fc := aK
   unfold Zbe at aK
   obtain ⟨ax, aD, ay, rfl⟩ := af.form
   refine sq_ fun dX => g_' (q_ (.bool (decide (e < (D.1.length : Int)))) (Za (dX _ _ (sq_ fun dY => ?_))))
   refine wc_ (e < (D.1.length : Int)) (fun aI => ?_) fun aI => ?_
   ·have eB := Zd aI aK
    refine Zi (dY _ _ (sq_ fun aO => Zr (sq_ fun dZ => g_' (q_ (i_ e) ?_))))
    obtain ⟨a7, eC⟩ := Zc eB
    have cV := (cU.fr U dn_)
    refine cV.sq.ix_ 54 a7 aI (le_ 131 0 (.agg #[i_ ((gt D.1 e).1), i_ ((gt D.1 e).2.1), .int .u64 ((gt D.1 e).2.2)]) cV.sq a7 aI ?_)
    refine rk_ U.wf [i_ 0, i_ 0, .int .u64 0] fun aF fh Z ae eD => ?_
    refine q_ (i_ e) ?_
    obtain ⟨fj, el, aa, bP⟩ := ra_ 131 0 Z.wf eD [i_ ((gt D.1 e).1), i_ ((gt D.1 e).2.1), .int .u64 ((gt D.1 e).2.2)] [i_ ((gt D.1 e).1), i_ ((gt D.1 e).2.1), .int .u64 ((gt D.1 e).2.2)]
    refine ek_ el (Za (dZ _ _ (sq_ fun d0 => g_' (q_ (pt_ aq 0) (q_ (pt_ aF 0) (lr_ 3 0 (i_ ((gt D.1 e).1)) bP (q_ (pt_ aF 1) (lr_ 3 1 (i_ ((gt D.1 e).2.1)) bP ?_))))))))
    have cF := (t_ (t_ (t_ V.n ak.n) O.n) U.n)
    have c3 := (ae.djn (ce.lt.le cF))
    have e3 := ((((cR.fr O dn_).fr U dn_).ext Z).fr aa c3)
    have c4 := (ae.djn (cd.ltF.le cF))
    have e4 := ((((cS.frS O dn_).frS U dn_).ext Z).frS aa c4)
    obtain ⟨ac, dG, cL⟩ := bs_ eC
    refine ck_ (ZcD aa.wf e3 e4 dG) ?_
    rintro _ fm ⟨rfl, ab⟩
    refine q_ (.tuple #[.int .u64 ac.1, .bool ac.2]) (q_ (.int .u64 ac.1) (q_ (.bool ac.2) (q_ (.int .u64 ac.1) (q_ (.bool ac.2) (Za (d0 _ _ (sq_ fun bb => ?_)))))))
    refine Z0 [0, 1, 2, 3, 4, 5, 6, 7, 8, 9, 10, 11, 12, 13, 14, 15, 16, 17, 18, 19, 20, 21] (by kernel_rfl) ?_
    refine e_' (pt_ aF 2) ?_
    have aR := (bP.frS ab dn_)
    refine mr_ 27 2 (.int .u64 ((gt D.1 e).2.2)) aR ?_
    refine db_ (((gt D.1 e).2.2) ≤ 140737488355328) (fun bB => ?_) fun bB => ?_
    ·have eE := Zd bB cL
     refine e_' (.bool true) (e_' (.slice aE aP aH) (e_' (i_ e) ?_))
     obtain ⟨ca, cM⟩ := Zc eE
     have c5 := (ae.djn (bH.lt.le U.n))
     have cW := ((((bH.fr U dn_).ext Z).fr aa c5).fr ab dn_)
     refine cW.sq.mx_ 36 a7 ca (me_ 27 0 (.int .u64 (gt bi.1 e)) cW.sq a7 ca (e_' (pt_ aF 2) (mr_ 27 2 (.int .u64 ((gt D.1 e).2.2)) aR ?_)))
     refine db_ ((gt bi.1 e) > ((gt D.1 e).2.2)) (fun bC => ?_) fun bC => ?_
     ·have cN := Zd bC cM
      refine e_' (.bool true) (e_' (.bool true) (e_' (.bool ac.2) (e_' (.bool ac.2) ?_)))
      by_cases a8 : ac.2 = true
      ·have cO := Zd a8 cN
       rw [a8]
       refine e_' (.int .u64 ac.1) (e_' (pt_ aF 2) (mr_ 27 2 (.int .u64 ((gt D.1 e).2.2)) aR (e_' (.bool (decide (ac.1 ≤ ((gt D.1 e).2.2)))) (e_' (.bool (decide (ac.1 ≤ ((gt D.1 e).2.2)))) (e_' (.bool (!decide (ac.1 ≤ ((gt D.1 e).2.2)))) (e_' (.bool (!decide (ac.1 ≤ ((gt D.1 e).2.2)))) ?_))))))
       refine ZO ?_
       refine bb _ _ ?_
       refine Zdx (ac.1 ≤ ((gt D.1 e).2.2)) (by kernel_rfl) rfl (fun bD => ?_) (fun bD => ?_)
       ·have eF := Zj bD cO
        refine g_' (q_ (.slice ax aD ay) (lr_ 131 0 (.agg #[i_ ((gt D.1 e).1), i_ ((gt D.1 e).2.1), .int .u64 ((gt D.1 e).2.2)]) aR ?_))
        refine Zcz (enc := Zw) (sz := 3) ab.wf [((gt D.1 e).1, (gt D.1 e).2.1, (gt D.1 e).2.2)] 1 (by decide) (fun _ _ => rfl) (fun _ _ => rfl) rfl (by kernel_rfl) fun f_ fP fo aZ fV cq => ?_
        obtain ⟨fE, f3, fI, rfl⟩ := cq.form
        have e5 := ((((af.ext Z).fr aa (ae.djn af.lt)).fr ab dn_).ext aZ)
        obtain ⟨dm, eG⟩ := Zc eF
        obtain ⟨ga, fu, db, em, c8, cr, dx⟩ := Ow.append (P := Tryz.prog) 24 aZ.wf e5 cq.sq (fun _ _ => rfl) (at_ := #[54, 54]) rfl rfl (by kernel_rfl) (by kernel_rfl) (by decide) (by have := dm; first | omega | (simp only [List.length_cons, List.length_nil] at this ⊢; omega) | (simp at this ⊢; omega))
        obtain ⟨bo, bL, bu, rfl⟩ := cr.form
        refine ZcJ (.slice bo bL bu) (by kernel_rfl) (em) ?_
        refine q_ (.slice bo bL bu) (Za (aO _ _ (g_' ?_)))
        obtain ⟨dn, eH⟩ := Zc eG
        refine w_' ((e + 1)) (Zs (by have := dn; omega)) (q_ (i_ (e + 1)) (Za ?_))
        have ee := (t_ (t_ (t_ (t_ U.n Z.n) aa.n) ab.n) aZ.n)
        obtain rfl := oi_ eH
        exact aN aQ _ _ lt_ ⟨(am ++ [((gt D.1 e).1, (gt D.1 e).2.1, (gt D.1 e).2.2)]), (e + 1), (.slice bo bL bu), db, aC, ha_, (fs_ O.wf ((fs_ O.wf (fs_ O.wf ((fs_ O.wf (fr_ O.wf) U in_).extR Z) aa (ae.fresh U.n)) ab in_).extR aZ) c8 (ao.fresh (Nat.le_refl _))), cr, (Inn.trans (ao.fresh (Nat.le_refl _)) ee dx)⟩
       have eI := Zd bD cO
       refine Zi (aO _ _ (g_' ?_))
       obtain ⟨dp, eJ⟩ := Zc eI
       refine w_' ((e + 1)) (Zs (by have := dp; omega)) (q_ (i_ (e + 1)) (Za ?_))
       have e6 := (((af.ext Z).fr aa (ae.djn af.lt)).fr ab dn_)
       obtain rfl := oi_ eJ
       exact aN aQ _ _ lt_ ⟨am, (e + 1), (.slice ax aD ay), ar, aC, ha_, (fs_ O.wf (fs_ O.wf ((fs_ O.wf (fr_ O.wf) U in_).extR Z) aa (ae.fresh U.n)) ab in_), e6, (ao.fresh (Nat.le_refl _))⟩
      have eK := Zj a8 cN
      rw [nb a8]
      refine j_' (j_' (j_' (j_' (e_' (.bool false) (e_' (.bool true) (e_' (.bool true) ?_))))))
      refine ZO ?_
      refine bb _ _ ?_
      refine wb_ true (fun _ => ?_) fun h => by cases h
      refine g_' (q_ (.slice ax aD ay) (lr_ 131 0 (.agg #[i_ ((gt D.1 e).1), i_ ((gt D.1 e).2.1), .int .u64 ((gt D.1 e).2.2)]) aR ?_))
      refine Zcz (enc := Zw) (sz := 3) ab.wf [((gt D.1 e).1, (gt D.1 e).2.1, (gt D.1 e).2.2)] 1 (by decide) (fun _ _ => rfl) (fun _ _ => rfl) rfl (by kernel_rfl) fun gb fQ fv a1 fW cu => ?_
      obtain ⟨fF, f4, fJ, rfl⟩ := cu.form
      have e7 := ((((af.ext Z).fr aa (ae.djn af.lt)).fr ab dn_).ext a1)
      obtain ⟨dq, eL⟩ := Zc eK
      obtain ⟨gc, fw, dc, en, c9, cv, dy⟩ := Ow.append (P := Tryz.prog) 24 a1.wf e7 cu.sq (fun _ _ => rfl) (at_ := #[54, 54]) rfl rfl (by kernel_rfl) (by kernel_rfl) (by decide) (by have := dq; first | omega | (simp only [List.length_cons, List.length_nil] at this ⊢; omega) | (simp at this ⊢; omega))
      obtain ⟨bp, bM, bv, rfl⟩ := cv.form
      refine ZcJ (.slice bp bM bv) (by kernel_rfl) (en) ?_
      refine q_ (.slice bp bM bv) (Za (aO _ _ (g_' ?_)))
      obtain ⟨dr, eM⟩ := Zc eL
      refine w_' ((e + 1)) (Zs (by have := dr; omega)) (q_ (i_ (e + 1)) (Za ?_))
      have ef := (t_ (t_ (t_ (t_ U.n Z.n) aa.n) ab.n) a1.n)
      obtain rfl := oi_ eM
      exact aN aQ _ _ lt_ ⟨(am ++ [((gt D.1 e).1, (gt D.1 e).2.1, (gt D.1 e).2.2)]), (e + 1), (.slice bp bM bv), dc, aC, ha_, (fs_ O.wf ((fs_ O.wf (fs_ O.wf ((fs_ O.wf (fr_ O.wf) U in_).extR Z) aa (ae.fresh U.n)) ab in_).extR a1) c9 (ao.fresh (Nat.le_refl _))), cv, (Inn.trans (ao.fresh (Nat.le_refl _)) ef dy)⟩
     have eN := Zj bC cM
     refine e_' (.bool false) (e_' (.bool false) (j_' (j_' (j_' (j_' (j_' (j_' (j_' (j_' (e_' (.bool false) ?_))))))))))
     refine ZO ?_
     refine bb _ _ ?_
     refine wb_ false (fun h => by cases h) fun _ => ?_
     refine Zi (aO _ _ (g_' ?_))
     obtain ⟨dt, eO⟩ := Zc eN
     refine w_' ((e + 1)) (Zs (by have := dt; omega)) (q_ (i_ (e + 1)) (Za ?_))
     have e8 := (((af.ext Z).fr aa (ae.djn af.lt)).fr ab dn_)
     obtain rfl := oi_ eO
     exact aN aQ _ _ lt_ ⟨am, (e + 1), (.slice ax aD ay), ar, aC, ha_, (fs_ O.wf (fs_ O.wf ((fs_ O.wf (fr_ O.wf) U in_).extR Z) aa (ae.fresh U.n)) ab in_), e8, (ao.fresh (Nat.le_refl _))⟩
    have eP := Zj bB cL
    refine e_' (.bool false) (j_' (j_' (j_' (j_' (j_' (j_' (j_' (e_' (.bool false) (e_' (.bool false) (j_' (j_' (j_' (j_' (j_' (j_' (j_' (j_' (e_' (.bool false) ?_))))))))))))))))))
    refine ZO ?_
    refine bb _ _ ?_
    refine wb_ false (fun h => by cases h) fun _ => ?_
    refine Zi (aO _ _ (g_' ?_))
    obtain ⟨du, eQ⟩ := Zc eP
    refine w_' ((e + 1)) (Zs (by have := du; omega)) (q_ (i_ (e + 1)) (Za ?_))
    have e9 := (((af.ext Z).fr aa (ae.djn af.lt)).fr ab dn_)
    obtain rfl := oi_ eQ
    exact aN aQ _ _ lt_ ⟨am, (e + 1), (.slice ax aD ay), ar, aC, ha_, (fs_ O.wf (fs_ O.wf ((fs_ O.wf (fr_ O.wf) U in_).extR Z) aa (ae.fresh U.n)) ab in_), e9, (ao.fresh (Nat.le_refl _))⟩
   have eR := Zj aI aK
   refine Zaf (Zq (Zq (Zau ?_)))
   obtain rfl := oi_ eR
   obtain rfl := ZL aC
   exact dW _ _ ⟨(.slice ax aD ay), ar, ha_, (fs_ O.wf (fr_ O.wf) U in_), af, (ao.fresh (Nat.le_refl _))⟩
  obtain ⟨bR, a2, ci, c7, cA, dH⟩ := hM
  obtain ⟨β, rfl⟩ := Zo ci
  clear ci
  obtain ⟨aW, bc, aX, rfl⟩ := cA.form
  refine dU _ _ (sq_ fun d2 => g_' (q_ (.slice aW bc aX) (q_ (.slice aW bc aX) (Za (d2 _ _ ?_)))))
  refine Zf ?_
  refine br_ [.slice aW bc aX] ?_
  have eh := (t_ (t_ V.n ak.n) O.n)
  obtain rfl := oi_ eA
  exact ⟨(.slice aW bc aX), a2, rfl, (fs_ aj (fs_ aj (fs_ aj ((f0_ aj).extR V) ak in_) O in_) c7 in_), cA, (dH.fresh eh)⟩
 have eS := Zj bA cJ
 refine l_' (.bool true) (Z2 Tryz.prog .neq 38 (.tmp 77) (.const .nilIface) (.iface eY fb) .nilIface) (Z4 (by kernel_rfl)) (Za (cx _ _ ?_))
 refine wb_ true (fun _ => ?_) fun h => by cases h
 refine sq_ fun d3 => g_' (q_ (.slice none 0 0) (Za (d3 _ _ ?_)))
 refine Zf (Zg ?_)
 refine br_ [.slice none 0 0] ?_
 obtain rfl := oi_ eS
 exact ⟨(.slice none 0 0), [], rfl, (fs_ aj (fs_ aj ((f0_ aj).extR V) ak in_) O in_), (Ow.nil (by decide)), in_⟩
theorem Zaz {H : AH} {Z : Nat} {aY : Value} {bB : Fp} {aA : List (Bool × List (Int × Int × Int) × List (Int × Int × Int))} {aB : Int} {aC : Int} {Y : Int} {ap : Int} {aq : Int} {an : Int} {al : Int} {am : Int} {r : List (Int × Int × Int) × Er}
    (ac : WF H) (aX : Nd Zb 3 H aY aA bB []) (aW : Row H Z [aY, i_ aB, i_ aC]) (a7 : ZS aA aB aC Y ap aq an al am = some r) :
    ACalls Tryz.prog 19 #[pt_ Z 0, i_ Y, .agg #[i_ ap, i_ aq, i_ an, i_ al, i_ am]] H fun v H' => ∃ (bh : Value) (aJ : Fp) (bq : Value) (aK : Fp), v = .tuple #[bh, bq] /\ FrS [] H H' /\ Ow Zw 3 H' bh r.1 aJ /\ Ev 78 116 H' bq r.2 aK /\ Inn [] H aJ /\ Inn [] H aK /\ Dj aJ aK := by
 refine ab_ Tryz.func19 ?_
 unfold ZS at a7
 refine sq_ fun bU => g_' ?_
 refine rl_ ac [i_ ap, i_ aq, i_ an, i_ al, i_ am] fun cP cH V cU cq => ?_
 refine q_ (.slice none 0 0) (q_ (.nilIface) (Za (bU _ _ (sq_ fun bX => sq_ fun bY => g_' (q_ (pt_ Z 0) (q_ (i_ Y) ?_))))))
 have bj := (aX.ext V)
 have bk := (aW.ext V)
 obtain ⟨c5, bJ, bg⟩ := bs_ a7
 refine ck_ (Zhj V.wf bj bk bJ) ?_
 rintro bp _ ⟨_, f27, rfl, rfl, ba, bN⟩
 refine q_ (bp) (Za (bY _ _ (sq_ fun a8 => g_' (q_ (bp) ?_))))
 rcases (ba).cases with ⟨aL, rfl⟩ | ⟨aL, aj, ak, rfl⟩
 ·have cu := Zd aL bg
  refine q_ (.bool false) (Za (a8 _ _ ?_))
  refine wb_ false (fun h => by cases h) fun _ => ?_
  refine Zi (bX _ _ (sq_ fun bZ => g_' (lr_ 53 0 (.agg #[i_ ap, i_ aq, i_ an, i_ al, i_ am]) cq ?_)))
  obtain ⟨O, bK, cv⟩ := bs_ cu
  refine ck_ (Zgp V.wf bK) ?_
  rintro _ cK ⟨rfl, ad⟩
  refine q_ (.tuple #[i_ O.1, i_ O.2]) (q_ (i_ O.1) (q_ (i_ O.2) (q_ (i_ O.1) (q_ (i_ O.2) (Za (bZ _ _ (sq_ fun b5 => g_' (q_ (pt_ Z 0) (q_ (i_ Y) ?_)))))))))
  have bl := (bj.fr ad dn_)
  have bm := (bk.frS ad dn_)
  obtain ⟨br, bL, cw⟩ := bs_ cv
  refine ck_ (Zbq ad.wf bl bm bL) ?_
  rintro c3 cL ⟨_, cS, rfl, ae, aN, cW⟩
  obtain ⟨aG, aQ, aI, rfl⟩ := aN.form
  refine q_ (.slice aG aQ aI) (Za (b5 _ _ (sq_ fun b6 => g_' (q_ (.slice none 0 0) (Za (b6 _ _ (sq_ fun b7 => sq_ fun b8 => g_' (q_ (pt_ Z 0) (q_ (i_ Y) ?_)))))))))
  have bn := (bl.fr ae dn_)
  have bo := (bm.frS ae dn_)
  obtain ⟨D, bM, cx⟩ := bs_ cw
  refine ck_ (Zdj ae.wf bn bo bM) ?_
  rintro c4 ao ⟨_, cT, rfl, I, aO, cX⟩
  obtain ⟨bs, ce, bt, rfl⟩ := aO.form
  refine aO.sq.ln_ 75 (q_ (i_ 0) (Za (b8 _ _ ?_)))
  obtain ⟨bf, bH, cy⟩ := bs_ cx
  refine ZP (fun α aD => ∃ (aR : Value) (aw : Fp), Has α [(12, aR)] /\ FrS [] ao aD /\ Ow Zw 3 aD aR bf aw /\ Inn [] ao aw) (fun _ b9 => ?_) (fun α aD hM => ?_)
  ·refine Zr ?_
   obtain ⟨be, bG⟩ := ZC.1 bH
   refine Z9 (fun n α aE => ∃ (ai : List (Int × Int × Int)), ∃ (e : Int), ∃ (aS : Value), ∃ (ax : Fp), ZT (fun zz_ => Zbl aA aB aC Y O br D zz_.1 zz_.2) n (ai, e) = some bf /\ Has α [(0, pt_ Z 0), (1, i_ Y), (9, i_ O.1), (10, i_ O.2), (11, .slice aG aQ aI), (12, aS), (31, .slice bs ce bt), (32, i_ (D.length : Int)), (33, i_ e)] /\ FrS [] ao aE /\ Ow Zw 3 aE aS ai ax /\ Inn [] ao ax) be ⟨[], 0, (.slice none 0 0), [], bG, ha_, (fr_ I.wf), (Ow.nil (by decide)), in_⟩ ?_
   rintro be α aE ⟨ai, e, aS, ax, bF, a1, U, ay, aM⟩ cM bP
   obtain ⟨b_, cE, rfl, ah, a6⟩ := ZJ bF
   obtain ⟨β, rfl⟩ := Zo a1
   clear a1
   replace ah : Zbl aA aB aC Y O br D ai e = some cE := ah
   unfold Zbl at ah
   obtain ⟨aT, bc, aU, rfl⟩ := ay.form
   refine sq_ fun bQ => g_' (q_ (.bool (decide (e < (D.length : Int)))) (Za (bQ _ _ (sq_ fun bR => ?_))))
   refine wc_ (e < (D.length : Int)) (fun af => ?_) fun af => ?_
   ·have ch := Zd af ah
    refine Zi (bR _ _ (sq_ fun bS => Zr (sq_ fun bT => g_' ?_)))
    obtain ⟨aV, ci⟩ := Zc ch
    have bi := (aO.fr U dn_)
    refine bi.sq.ix_ 75 aV af (le_ 80 0 (.agg #[i_ ((gt D e).1), .int .u64 ((gt D e).2.1), i_ ((gt D e).2.2)]) bi.sq aV af ?_)
    refine rk_ U.wf [i_ 0, .int .u64 0, i_ 0] fun cO cF aa ag cj => ?_
    obtain ⟨cG, cf, ab, ck⟩ := ra_ 80 0 aa.wf cj [i_ ((gt D e).1), .int .u64 ((gt D e).2.1), i_ ((gt D e).2.2)] [i_ ((gt D e).1), .int .u64 ((gt D e).2.1), i_ ((gt D e).2.2)]
    refine ek_ cf (Za (bT _ _ (g_' (q_ (.slice aT bc aU) (q_ (pt_ Z 0) (lr_ 80 0 (.agg #[i_ ((gt D e).1), .int .u64 ((gt D e).2.1), i_ ((gt D e).2.2)]) ck (q_ (i_ Y) (q_ (.slice aG aQ aI) (q_ (i_ O.1) (q_ (i_ O.2) ?_))))))))))
    have bd := (t_ (t_ (t_ (t_ V.n ad.n) ae.n) I.n) U.n)
    have bu := (ag.djn (aX.lt.le bd))
    have cz := ((((bn.fr I dn_).fr U dn_).ext aa).fr ab bu)
    have bv := (ag.djn (aW.ltF.le bd))
    have cA := ((((bo.frS I dn_).frS U dn_).ext aa).frS ab bv)
    have ca := (t_ I.n U.n)
    have bw := (ag.djn (aN.lt.le ca))
    have cB := ((((aN.fr I dn_).fr U dn_).ext aa).fr ab bw)
    obtain ⟨cD, bI, cm⟩ := bs_ ci
    refine ck_ (ZhL ab.wf cz cA cB.sq bI) ?_
    rintro cZ cI ⟨_, cR, rfl, av, a_, cV⟩
    obtain ⟨cN, cY, cQ, rfl⟩ := a_.form
    have cC := (((ay.ext aa).fr ab (ag.djn ay.lt)).fr av dn_)
    obtain ⟨bC, cn⟩ := Zc cm
    obtain ⟨c0, cJ, bA, cg, bx, a2, bE⟩ := Ow.append (P := Tryz.prog) 24 av.wf cC a_.sq (fun _ _ => rfl) (at_ := #[54, 54]) rfl rfl (by kernel_rfl) (by kernel_rfl) (by decide) (by have := bC; first | omega | (simp only [List.length_cons, List.length_nil] at this ⊢; omega) | (simp at this ⊢; omega))
    obtain ⟨aF, aP, aH, rfl⟩ := a2.form
    refine ZcJ (.slice aF aP aH) (by kernel_rfl) (cg) ?_
    refine q_ (.slice aF aP aH) (Za (bS _ _ (g_' ?_)))
    obtain ⟨bD, co⟩ := Zc cn
    refine w_' ((e + 1)) (Zs (by have := bD; omega)) (q_ (i_ (e + 1)) (Za ?_))
    have cc := (t_ (t_ (t_ U.n aa.n) ab.n) av.n)
    obtain rfl := oi_ co
    exact bP b_ _ _ lt_ ⟨(ai ++ cD), (e + 1), (.slice aF aP aH), bA, a6, ha_, (fs_ I.wf (fs_ I.wf (fs_ I.wf ((fs_ I.wf (fr_ I.wf) U in_).extR aa) ab (ag.fresh U.n)) av in_) bx (aM.fresh (Nat.le_refl _))), a2, (Inn.trans (aM.fresh (Nat.le_refl _)) cc bE)⟩
   have cp := Zj af ah
   refine Zaf (Zq (Zq (Zau ?_)))
   obtain rfl := oi_ cp
   obtain rfl := ZL a6
   exact b9 _ _ ⟨(.slice aT bc aU), ax, ha_, (fs_ I.wf (fr_ I.wf) U in_), ay, (aM.fresh (Nat.le_refl _))⟩
  obtain ⟨aR, aw, aZ, bz, bb, bO⟩ := hM
  obtain ⟨β, rfl⟩ := Zo aZ
  clear aZ
  obtain ⟨ar, az, au, rfl⟩ := bb.form
  refine b7 _ _ (sq_ fun bV => g_' (q_ (.slice ar az au) (q_ (.slice ar az au) (q_ (.nilIface) (Za (bV _ _ ?_))))))
  refine Zf ?_
  refine br_ [.slice ar az au, .nilIface] ?_
  have cd := (t_ (t_ (t_ V.n ad.n) ae.n) I.n)
  obtain rfl := oi_ cy
  exact ⟨(.slice ar az au), aw, (.nilIface), [], rfl, (fs_ ac (fs_ ac (fs_ ac (fs_ ac ((f0_ ac).extR V) ad in_) ae in_) I in_) bz in_), bb, Ev.nil, (bO.fresh cd), in_, Dj.nil_r⟩
 have cr := Zj aL bg
 refine l_' (.bool true) (Z2 Tryz.prog .neq 38 (.tmp 18) (.const .nilIface) (.iface aj ak) .nilIface) (Z4 (by kernel_rfl)) (Za (a8 _ _ ?_))
 refine wb_ true (fun _ => ?_) fun h => by cases h
 refine sq_ fun bW => g_' (q_ (.iface aj ak) (q_ (.slice none 0 0) (q_ (.iface aj ak) (Za (bW _ _ ?_)))))
 refine Zf (Zg ?_)
 refine br_ [.slice none 0 0, .iface aj ak] ?_
 obtain rfl := oi_ cr
 exact ⟨(.slice none 0 0), [], (.iface aj ak), f27, rfl, ((f0_ ac).extR V), (Ow.nil (by decide)), ba, in_, (bN.fresh V.n), dn_⟩
end Go.Vd
