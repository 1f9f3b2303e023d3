/- What the functions come to, as plain functions (printed by a program of ours). -/
import Derived.Test.YtbjamignglibpaaVpA
set_option maxRecDepth 100000
set_option linter.unusedVariables false
namespace Go.Vd
def enc_i64_i64 (x : Int × Int) : List Value := [.int .i64 x.1, .int .i64 x.2]


noncomputable def z_viaductref01_E (n_ : Int) : Option (Int) :=
  some n_

noncomputable def z_viaductref01_At (kind : Int) (at_ : Int) (Code : Int) (Places : List (Int × Int)) : Option (Int × List (Int × Int)) :=
  G ([(kind, at_)].length + Places.length ≤ 8796093021952) (some (Code, ([(kind, at_)] ++ Places)))

noncomputable def z_viaductref05_DocCheck_l0 (First : List (Int)) (v0 : Int) : Option ((Int) ⊕ ((Int × List (Int × Int)) ⊕ (Unit))) :=
  if v0 < ((First.length : Int) - 1) then (G (-9223372036854775808 ≤ (v0 + 1) ∧ (v0 + 1) ≤ 9223372036854775807) (G (0 ≤ (v0 + 1) ∧ (v0 + 1) < (First.length : Int)) (G (0 ≤ v0 ∧ v0 < (First.length : Int)) (if (gt First (v0 + 1)) < (gt First v0) then (((z_viaductref01_E 14).bind fun y124 => ((z_viaductref01_At 3 v0 y124 []).bind fun y129 => (some (y129.1, y129.2)).map fun v => Sum.inr (Sum.inl v)))) else (G ((v0 + 1) ≤ 9223372036854775807) (some (Sum.inl (v0 + 1)))))))) else (some (Sum.inr (Sum.inr ())))
noncomputable def z_viaductref05_DocCheck_l2 (First : List (Int)) (i3 : Int) (v1 : Int) : Option ((Int) ⊕ (Int)) :=
  G (-9223372036854775808 ≤ (v1 + 1) ∧ (v1 + 1) ≤ 9223372036854775807) (G (0 ≤ (v1 + 1) ∧ (v1 + 1) < (First.length : Int)) (if (gt First (v1 + 1)) ≤ i3 then (G ((v1 + 1) ≤ 9223372036854775807) (some (Sum.inl (v1 + 1)))) else (some (Sum.inr v1))))
noncomputable def z_viaductref05_DocCheck_l1 (First : List (Int)) (To : List (Int)) (Weight : List (Int)) (v2 : Int) (i3 : Int) : Option ((Int × Int) ⊕ ((Int × List (Int × Int)) ⊕ (Unit))) :=
  if i3 < (To.length : Int) then (((loopO (fun s => z_viaductref05_DocCheck_l2 First i3 s) v2).bind fun o185 => ((G (0 ≤ i3) (if (gt To i3) < 0 then (some true) else (some (decide ((gt To i3) ≥ ((First.length : Int) - 1))))) : Option (Bool)).bind fun o217 => ((if o217 = true then (some 7) else (((G (0 ≤ i3) (if (gt To i3) = o185 then (some true) else (G (0 ≤ o185 ∧ o185 < (First.length : Int)) (if i3 > (gt First o185) then (G (-9223372036854775808 ≤ (i3 - 1) ∧ (i3 - 1) ≤ 9223372036854775807) (G (0 ≤ (i3 - 1) ∧ (i3 - 1) < (To.length : Int)) (some (decide ((gt To i3) ≤ (gt To (i3 - 1))))))) else (some false)))) : Option (Bool)).bind fun o240 => if o240 = true then (some 14) else (G (0 ≤ i3 ∧ i3 < (Weight.length : Int)) (if (gt Weight i3) < 0 then (some 8) else (if (gt Weight i3) > 2147483647 then (some 8) else (some 0)))))) : Option (Int)).bind fun o229 => if o229 = 0 then (G (-9223372036854775808 ≤ (i3 + 1) ∧ (i3 + 1) ≤ 9223372036854775807) (some (Sum.inl (o185, (i3 + 1))))) else (((z_viaductref01_E o229).bind fun y278 => ((z_viaductref01_At 4 i3 y278 []).bind fun y283 => (some (y283.1, y283.2)).map fun v => Sum.inr (Sum.inl v)))))))) else (some (Sum.inr (Sum.inr ())))
noncomputable def z_viaductref05_DocCheck (First : List (Int)) (To : List (Int)) (Weight : List (Int)) : Option (Int × List (Int × Int)) :=
  G (-9223372036854775808 ≤ ((First.length : Int) - 1) ∧ ((First.length : Int) - 1) ≤ 9223372036854775807) (((if ((First.length : Int) - 1) < 0 then (some true) else (G ((0 : Int) < (First.length : Int)) (if (gt First 0) = 0 then (G (0 ≤ ((First.length : Int) - 1) ∧ ((First.length : Int) - 1) < (First.length : Int)) (if (gt First ((First.length : Int) - 1)) = (To.length : Int) then (some (!decide ((Weight.length : Int) = (To.length : Int)))) else (some true))) else (some true))) : Option (Bool)).bind fun o27 => if o27 = true then (((z_viaductref01_E 14).bind fun y51 => some (y51, []))) else (((if ((First.length : Int) - 1) > 65536 then (some true) else (some (decide ((To.length : Int) > 262144))) : Option (Bool)).bind fun o64 => if o64 = true then (((z_viaductref01_E 9).bind fun y77 => some (y77, []))) else (((loopO (fun s => z_viaductref05_DocCheck_l0 First s) 0).bind (Sum.elim some fun o90 => ((loopO (fun s => z_viaductref05_DocCheck_l1 First To Weight s.1 s.2) (0, 0)).bind (Sum.elim some fun o160 => some (0, []))))))))))

noncomputable def z_viaductref01_Err_Bad (Code : Int) (Places : List (Int × Int)) : Option (Bool) :=
  if Code = 0 then (some (decide ((Places.length : Int) > 0))) else (some true)

noncomputable def z_viaductlaw09_few (First : List (Int)) (To : List (Int)) (Weight : List (Int)) (l : List (Int)) : Option (Bool) :=
  ((z_viaductref05_DocCheck First To Weight).bind fun y12 => if (l.length : Int) ≤ 2000 then (((z_viaductref01_Err_Bad y12.1 y12.2).bind fun y41 => if y41 = true then (some true) else (some (decide ((First.length : Int) ≤ 30))))) else (some false))

noncomputable def z_viaductref02_TwinInts_l0 (l : List (Int)) (m0 : List (Int)) (i1 : Int) : Option ((List (Int) × Int) ⊕ (List (Int))) :=
  if i1 < (l.length : Int) then (G (0 ≤ i1) (G (m0.length + 1 ≤ 17592186044160) (G ((i1 + 1) ≤ 9223372036854775807) (some (Sum.inl ((m0 ++ [(gt l i1)]), (i1 + 1))))))) else (some (Sum.inr m0))
noncomputable def z_viaductref02_TwinInts (l : List (Int)) : Option (List (Int)) :=
  ((loopO (fun s => z_viaductref02_TwinInts_l0 l s.1 s.2) ([], 0)).bind fun o10 => some o10)

noncomputable def z_walk_Simple_l1 (list : List (Int)) (i0 : Int) (at1 : Int → Option Int) (s2 : List (Int)) (at3 : Int → Option Int) (i4 : Int) : Option (((Int → Option Int) × Int) ⊕ ((Int → Option Int))) :=
  if i4 < (((s2.take s2.length).drop ((at1 (gt list i0)).getD 0).toNat).length : Int) then (G (0 ≤ i4) (G ((i4 + 1) ≤ 9223372036854775807) (some (Sum.inl ((fun x => if x = (gt ((s2.take s2.length).drop ((at1 (gt list i0)).getD 0).toNat) i4) then none else at3 x), (i4 + 1)))))) else (some (Sum.inr at3))
noncomputable def z_walk_Simple_l0 (list : List (Int)) (i0 : Int) (at1 : Int → Option Int) (s2 : List (Int)) : Option ((Int × (Int → Option Int) × List (Int)) ⊕ (List (Int))) :=
  if i0 < (list.length : Int) then (G (0 ≤ i0) (if ((at1 (gt list i0)).getD 0) = 0 then (G (s2.length + 1 ≤ 17592186044160) (G ((i0 + 1) ≤ 9223372036854775807) (some (Sum.inl ((i0 + 1), (fun x => if x = (gt list i0) then some ((s2 ++ [(gt list i0)]).length : Int) else at1 x), (s2 ++ [(gt list i0)])))))) else (G (0 ≤ ((at1 (gt list i0)).getD 0) ∧ ((at1 (gt list i0)).getD 0) ≤ (s2.length : Int)) (((loopO (fun s => z_walk_Simple_l1 list i0 at1 s2 s.1 s.2) (at1, 0)).bind fun o112 => G ((i0 + 1) ≤ 9223372036854775807) (some (Sum.inl ((i0 + 1), o112, (s2.take ((at1 (gt list i0)).getD 0).toNat))))))))) else (some (Sum.inr s2))
noncomputable def z_walk_Simple (list : List (Int)) : Option (List (Int)) :=
  ((loopO (fun s => z_walk_Simple_l0 list s.1 s.2.1 s.2.2) (0, (fun _ => none), [])).bind fun o18 => some o18)

noncomputable def z_viaductref02_SameInts_l0 (a : List (Int)) (b : List (Int)) (i0 : Int) : Option ((Int) ⊕ ((Bool) ⊕ (Unit))) :=
  if i0 < (a.length : Int) then (G (0 ≤ i0) (G (i0 < (b.length : Int)) (if (gt a i0) = (gt b i0) then (G ((i0 + 1) ≤ 9223372036854775807) (some (Sum.inl (i0 + 1)))) else ((some false).map fun v => Sum.inr (Sum.inl v))))) else (some (Sum.inr (Sum.inr ())))
noncomputable def z_viaductref02_SameInts (a : List (Int)) (b : List (Int)) : Option (Bool) :=
  if (a.length : Int) = (b.length : Int) then (((loopO (fun s => z_viaductref02_SameInts_l0 a b s) 0).bind (Sum.elim some fun o10 => some true))) else (some false)

noncomputable def z_viaductref05_Twin (First : List (Int)) (To : List (Int)) (Weight : List (Int)) : Option (List (Int) × List (Int) × List (Int)) :=
  ((z_viaductref02_TwinInts First).bind fun y35 => ((z_viaductref02_TwinInts To).bind fun y50 => ((z_viaductref02_TwinInts Weight).bind fun y65 => some (y35, y50, y65))))

noncomputable def z_viaductlaw09_of (First : List (Int)) (To : List (Int)) (Weight : List (Int)) : Option (List (Int) × List (Int) × List (Int)) :=
  ((z_viaductref05_Twin First To Weight).bind fun y37 => some (y37.1, y37.2.1, y37.2.2))

noncomputable def z_csr_Csr_nodes (First : List (Int)) (To : List (Int)) (Weight : List (Int)) : Option (Int) :=
  G (-9223372036854775808 ≤ ((First.length : Int) - 1) ∧ ((First.length : Int) - 1) ≤ 9223372036854775807) (some ((First.length : Int) - 1))

noncomputable def z_fault_At (kind : Int) (at_ : Int) (err : Er) : Option (Er) :=
  if err = Er.nil then (some Er.nil) else (some (Er.at kind at_ err))

noncomputable def z_csr_Csr_arc (First : List (Int)) (To : List (Int)) (Weight : List (Int)) (v_ : Int) (i : Int) : Option (Er) :=
  G (0 ≤ i ∧ i < (To.length : Int)) (((if (gt To i) < 0 then (some true) else (((z_csr_Csr_nodes First To Weight).bind fun y31 => some (decide ((gt To i) ≥ y31)))) : Option (Bool)).bind fun o19 => if o19 = true then (some (Er.no 7)) else (((if (gt To i) = v_ then (some true) else (G (0 ≤ v_ ∧ v_ < (First.length : Int)) (if i > (gt First v_) then (G (-9223372036854775808 ≤ (i - 1) ∧ (i - 1) ≤ 9223372036854775807) (G (0 ≤ (i - 1) ∧ (i - 1) < (To.length : Int)) (some (decide ((gt To i) ≤ (gt To (i - 1))))))) else (some false))) : Option (Bool)).bind fun o41 => if o41 = true then (some (Er.no 14)) else (G (i < (Weight.length : Int)) (if (gt Weight i) < 0 then (some (Er.no 8)) else (if (gt Weight i) > 2147483647 then (some (Er.no 8)) else (some Er.nil))))))))

noncomputable def z_csr_Check_l0 (First : List (Int)) (y17 : Int) (i0 : Int) : Option ((Int) ⊕ ((Er) ⊕ (Unit))) :=
  if i0 < y17 then (G (-9223372036854775808 ≤ (i0 + 1) ∧ (i0 + 1) ≤ 9223372036854775807) (G (0 ≤ (i0 + 1) ∧ (i0 + 1) < (First.length : Int)) (G (0 ≤ i0 ∧ i0 < (First.length : Int)) (if (gt First (i0 + 1)) < (gt First i0) then (((z_fault_At 3 i0 (Er.no 14)).bind fun y108 => (some y108).map fun v => Sum.inr (Sum.inl v))) else (G ((i0 + 1) ≤ 9223372036854775807) (some (Sum.inl (i0 + 1)))))))) else (some (Sum.inr (Sum.inr ())))
noncomputable def z_csr_Check_l2 (First : List (Int)) (To : List (Int)) (Weight : List (Int)) (i2 : Int) (i1 : Int) : Option ((Int) ⊕ (((Int) ⊕ ((Er) ⊕ (Unit))) ⊕ (Unit))) :=
  G ((i2 + 1) ≤ 9223372036854775807) (G (0 ≤ (i2 + 1) ∧ (i2 + 1) < (First.length : Int)) (if i1 < (gt First (i2 + 1)) then (((z_csr_Csr_arc First To Weight i2 i1).bind fun y192 => if y192 = Er.nil then (G (-9223372036854775808 ≤ (i1 + 1) ∧ (i1 + 1) ≤ 9223372036854775807) (some (Sum.inl (i1 + 1)))) else (((z_fault_At 4 i1 y192).bind fun y211 => ((some y211).map fun v => Sum.inr (Sum.inl v)).map fun v => Sum.inr (Sum.inl v))))) else (some (Sum.inr (Sum.inr ())))))
noncomputable def z_csr_Check_l1 (First : List (Int)) (To : List (Int)) (Weight : List (Int)) (y17 : Int) (i2 : Int) : Option ((Int) ⊕ ((Er) ⊕ (Unit))) :=
  if i2 < y17 then (G (0 ≤ i2 ∧ i2 < (First.length : Int)) (((loopO (fun s => z_csr_Check_l2 First To Weight i2 s) (gt First i2)).bind (Sum.elim some fun o159 => G ((i2 + 1) ≤ 9223372036854775807) (some (Sum.inl (i2 + 1))))))) else (some (Sum.inr (Sum.inr ())))
noncomputable def z_csr_Check (First : List (Int)) (To : List (Int)) (Weight : List (Int)) : Option (Er) :=
  ((z_csr_Csr_nodes First To Weight).bind fun y17 => ((if y17 < 0 then (some true) else (G ((0 : Int) < (First.length : Int)) (if (gt First 0) = 0 then (G (0 ≤ y17 ∧ y17 < (First.length : Int)) (if (gt First y17) = (To.length : Int) then (some (!decide ((To.length : Int) = (Weight.length : Int)))) else (some true))) else (some true))) : Option (Bool)).bind fun o24 => if o24 = true then (some (Er.no 14)) else (((if y17 > 65536 then (some true) else (some (decide ((To.length : Int) > 262144))) : Option (Bool)).bind fun o53 => if o53 = true then (some (Er.no 9)) else (((loopO (fun s => z_csr_Check_l0 First y17 s) 0).bind (Sum.elim some fun o71 => ((loopO (fun s => z_csr_Check_l1 First To Weight y17 s) 0).bind (Sum.elim some fun o129 => some Er.nil)))))))))

noncomputable def z_cmp_isNaN (x : Int) : Option (Bool) :=
  some (!decide (x = x))

noncomputable def z_cmp_Less (x : Int) (y : Int) : Option (Bool) :=
  ((z_cmp_isNaN x).bind fun y3 => if y3 = true then (((z_cmp_isNaN y).bind fun y11 => if y11 = true then (some (decide (x < y))) else (some true))) else (some (decide (x < y))))

noncomputable def z_slices_isNaN (x : Int) : Option (Bool) :=
  some (!decide (x = x))

noncomputable def z_slices_BinarySearch_l0 (x : List (Int)) (target : Int) (i0 : Int) (j1 : Int) : Option ((Int × Int) ⊕ (Int)) :=
  if i0 < j1 then (G (-9223372036854775808 ≤ (i0 + j1) ∧ (i0 + j1) ≤ 9223372036854775807) (G (0 ≤ (i0 + j1) ∧ (i0 + j1) ≤ 18446744073709551615) (G (-9223372036854775808 ≤ ((i0 + j1) / 2) ∧ ((i0 + j1) / 2) ≤ 9223372036854775807) (G (0 ≤ ((i0 + j1) / 2) ∧ ((i0 + j1) / 2) < (x.length : Int)) (((z_cmp_Less (gt x ((i0 + j1) / 2)) target).bind fun y37 => if y37 = true then (G ((((i0 + j1) / 2) + 1) ≤ 9223372036854775807) (some (Sum.inl ((((i0 + j1) / 2) + 1), j1)))) else (some (Sum.inl (i0, ((i0 + j1) / 2)))))))))) else (some (Sum.inr i0))
noncomputable def z_slices_BinarySearch (x : List (Int)) (target : Int) : Option (Int × Bool) :=
  ((loopO (fun s => z_slices_BinarySearch_l0 x target s.1 s.2) (0, (x.length : Int))).bind fun o5 => if o5 < (x.length : Int) then (G (0 ≤ o5) (if (gt x o5) = target then (some (o5, true)) else (((z_slices_isNaN (gt x o5)).bind fun y56 => if y56 = true then (((z_slices_isNaN target).bind fun y64 => some (o5, y64))) else (some (o5, false)))))) else (some (o5, false)))

noncomputable def z_walk_arc (First : List (Int)) (To : List (Int)) (Weight : List (Int)) (v_ : Int) (w : Int) : Option (Int × Er) :=
  G (0 ≤ v_ ∧ v_ < (First.length : Int)) (G ((v_ + 1) ≤ 9223372036854775807) (G (0 ≤ (v_ + 1) ∧ (v_ + 1) < (First.length : Int)) (G (0 ≤ (gt First v_) ∧ (gt First v_) ≤ (gt First (v_ + 1)) ∧ (gt First (v_ + 1)) ≤ (To.length : Int)) (((z_slices_BinarySearch ((To.take (gt First (v_ + 1)).toNat).drop (gt First v_).toNat) w).bind fun y32 => if (!y32.2) = true then (some (0, (Er.no 16))) else (G (-9223372036854775808 ≤ ((gt First v_) + y32.1) ∧ ((gt First v_) + y32.1) ≤ 9223372036854775807) (G (0 ≤ ((gt First v_) + y32.1) ∧ ((gt First v_) + y32.1) < (Weight.length : Int)) (some ((gt Weight ((gt First v_) + y32.1)), Er.nil)))))))))

noncomputable def z_walk_Length_l0 (First : List (Int)) (list : List (Int)) (i0 : Int) : Option ((Int) ⊕ ((Int × Er) ⊕ (Unit))) :=
  if i0 < (list.length : Int) then (G (0 ≤ i0) (((if (gt list i0) < 0 then (some true) else (G (-9223372036854775808 ≤ ((First.length : Int) - 1) ∧ ((First.length : Int) - 1) ≤ 9223372036854775807) (some (decide ((gt list i0) ≥ ((First.length : Int) - 1))))) : Option (Bool)).bind fun o70 => if o70 = true then (((z_fault_At 3 i0 (Er.no 7)).bind fun y87 => (some (0, y87)).map fun v => Sum.inr (Sum.inl v))) else (G ((i0 + 1) ≤ 9223372036854775807) (some (Sum.inl (i0 + 1))))))) else (some (Sum.inr (Sum.inr ())))
noncomputable def z_walk_Length_l1 (First : List (Int)) (To : List (Int)) (Weight : List (Int)) (list : List (Int)) (i1 : Int) (sum2 : Int) : Option ((Int × Int) ⊕ ((Int × Er) ⊕ (Int))) :=
  if i1 < ((list.length : Int) - 1) then (G (0 ≤ i1 ∧ i1 < (list.length : Int)) (G ((i1 + 1) ≤ 9223372036854775807) (G (0 ≤ (i1 + 1) ∧ (i1 + 1) < (list.length : Int)) (((z_walk_arc First To Weight (gt list i1) (gt list (i1 + 1))).bind fun y148 => if y148.2 = Er.nil then (G (0 ≤ y148.1 ∧ y148.1 ≤ 18446744073709551615) (G (0 ≤ (sum2 + y148.1) ∧ (sum2 + y148.1) ≤ 18446744073709551615) (some (Sum.inl ((i1 + 1), (sum2 + y148.1)))))) else (((z_fault_At 4 i1 y148.2).bind fun y170 => (some (0, y170)).map fun v => Sum.inr (Sum.inl v)))))))) else (some (Sum.inr (Sum.inr sum2)))
noncomputable def z_walk_Length (First : List (Int)) (To : List (Int)) (Weight : List (Int)) (list : List (Int)) : Option (Int × Er) :=
  ((z_csr_Check First To Weight).bind fun y18 => if y18 = Er.nil then (if (list.length : Int) = 0 then (some (0, (Er.no 5))) else (((loopO (fun s => z_walk_Length_l0 First list s) 0).bind (Sum.elim some fun o42 => G (-9223372036854775808 ≤ ((list.length : Int) - 1) ∧ ((list.length : Int) - 1) ≤ 9223372036854775807) (((loopO (fun s => z_walk_Length_l1 First To Weight list s.1 s.2) (0, 0)).bind (Sum.elim some fun o111 => some (o111, Er.nil)))))))) else (some (0, y18)))

noncomputable def z_viaductlaw09_WalkLoops_l1 (y53 : List (Int)) (i2 : Int) (i0 : Int) : Option ((Int) ⊕ (((Int) ⊕ ((Bool) ⊕ (Unit))) ⊕ (Unit))) :=
  if i0 < ((y53.take i2.toNat).length : Int) then (G (0 ≤ i0) (G (0 ≤ i2) (if (gt (y53.take i2.toNat) i0) = (gt y53 i2) then (((some false).map fun v => Sum.inr (Sum.inl v)).map fun v => Sum.inr (Sum.inl v)) else (G ((i0 + 1) ≤ 9223372036854775807) (some (Sum.inl (i0 + 1))))))) else (some (Sum.inr (Sum.inr ())))
noncomputable def z_viaductlaw09_WalkLoops_l2 (l : List (Int)) (y53 : List (Int)) (i2 : Int) (j1 : Int) (near3 : Bool) : Option ((Int × Bool) ⊕ (Bool)) :=
  if j1 < (l.length : Int) then (if near3 = true then (G (-9223372036854775808 ≤ (j1 + 1) ∧ (j1 + 1) ≤ 9223372036854775807) (some (Sum.inl ((j1 + 1), true)))) else (G (-9223372036854775808 ≤ (j1 - 1) ∧ (j1 - 1) ≤ 9223372036854775807) (G (0 ≤ (j1 - 1) ∧ (j1 - 1) < (l.length : Int)) (G (-9223372036854775808 ≤ (i2 - 1) ∧ (i2 - 1) ≤ 9223372036854775807) (G (0 ≤ (i2 - 1) ∧ (i2 - 1) < (y53.length : Int)) (if (gt l (j1 - 1)) = (gt y53 (i2 - 1)) then (G (0 ≤ j1) (G (0 ≤ i2) (if (gt l j1) = (gt y53 i2) then (G ((j1 + 1) ≤ 9223372036854775807) (some (Sum.inl ((j1 + 1), true)))) else (G ((j1 + 1) ≤ 9223372036854775807) (some (Sum.inl ((j1 + 1), false))))))) else (G (-9223372036854775808 ≤ (j1 + 1) ∧ (j1 + 1) ≤ 9223372036854775807) (some (Sum.inl ((j1 + 1), false)))))))))) else (some (Sum.inr near3))
noncomputable def z_viaductlaw09_WalkLoops_l0 (l : List (Int)) (y53 : List (Int)) (i2 : Int) : Option ((Int) ⊕ ((Bool) ⊕ (Unit))) :=
  if i2 < (y53.length : Int) then (G (0 ≤ i2 ∧ i2 ≤ (y53.length : Int)) (((loopO (fun s => z_viaductlaw09_WalkLoops_l1 y53 i2 s) 0).bind (Sum.elim some fun o181 => ((loopO (fun s => z_viaductlaw09_WalkLoops_l2 l y53 i2 s.1 s.2) (1, (decide (i2 = 0)))).bind fun o230 => if (!o230) = true then ((some false).map fun v => Sum.inr (Sum.inl v)) else (G ((i2 + 1) ≤ 9223372036854775807) (some (Sum.inl (i2 + 1))))))))) else (some (Sum.inr (Sum.inr ())))
noncomputable def z_viaductlaw09_WalkLoops (First : List (Int)) (To : List (Int)) (Weight : List (Int)) (l : List (Int)) : Option (Bool) :=
  ((((z_viaductlaw09_few First To Weight l).bind fun y23 => if y23 = true then (some (decide ((l.length : Int) > 200))) else (some true)) : Option (Bool)).bind fun o12 => if o12 = true then (some true) else (((z_viaductref02_TwinInts l).bind fun y40 => ((z_walk_Simple y40).bind fun y53 => if (l.length : Int) = 0 then (some (decide ((y53.length : Int) = 0))) else (((if (y53.length : Int) = 0 then (some true) else (if (y53.length : Int) > (l.length : Int) then (some true) else (G ((0 : Int) < (y53.length : Int)) (G ((0 : Int) < (l.length : Int)) (if (gt y53 0) = (gt l 0) then (G (-9223372036854775808 ≤ ((y53.length : Int) - 1) ∧ ((y53.length : Int) - 1) ≤ 9223372036854775807) (G (0 ≤ ((y53.length : Int) - 1) ∧ ((y53.length : Int) - 1) < (y53.length : Int)) (G (-9223372036854775808 ≤ ((l.length : Int) - 1) ∧ ((l.length : Int) - 1) ≤ 9223372036854775807) (G (0 ≤ ((l.length : Int) - 1) ∧ ((l.length : Int) - 1) < (l.length : Int)) (if (gt y53 ((y53.length : Int) - 1)) = (gt l ((l.length : Int) - 1)) then (((z_viaductref02_TwinInts y53).bind fun y104 => ((z_walk_Simple y104).bind fun y117 => ((z_viaductref02_SameInts y117 y53).bind fun y131 => some (!y131))))) else (some true)))))) else (some true))))) : Option (Bool)).bind fun o75 => if o75 = true then (some false) else (((loopO (fun s => z_viaductlaw09_WalkLoops_l0 l y53 s) 0).bind (Sum.elim some fun o145 => ((z_viaductlaw09_of First To Weight).bind fun y302 => ((z_viaductref02_TwinInts l).bind fun y335 => ((z_walk_Length y302.1 y302.2.1 y302.2.2 y335).bind fun y351 => if y351.2 = Er.nil then (((z_viaductlaw09_of First To Weight).bind fun y372 => ((z_walk_Length y372.1 y372.2.1 y372.2.2 y53).bind fun y405 => if y405.2 = Er.nil then (some (decide (y405.1 ≤ y351.1))) else (some false)))) else (some (decide (y351.1 = 0)))))))))))))))

end Go.Vd
