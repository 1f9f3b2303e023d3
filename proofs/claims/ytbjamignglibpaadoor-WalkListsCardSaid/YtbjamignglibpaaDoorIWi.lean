/- What the functions come to, as plain functions (printed by a program of ours). -/
import Derived.Test.YtbjamignglibpaaDoorVpA
set_option maxRecDepth 100000
set_option linter.unusedVariables false
namespace Go.Vd
def enc_i64_i64 (x : Int × Int) : List Value := [.int .i64 x.1, .int .i64 x.2]


noncomputable def z_viaductref02_TwinInts_l0 (l : List (Int)) (m0 : List (Int)) (i1 : Int) : Option ((List (Int) × Int) ⊕ (List (Int))) :=
  if i1 < (l.length : Int) then (G (0 ≤ i1) (G (m0.length + 1 ≤ 17592186044160) (G ((i1 + 1) ≤ 9223372036854775807) (some (Sum.inl ((m0 ++ [(gt l i1)]), (i1 + 1))))))) else (some (Sum.inr m0))
noncomputable def z_viaductref02_TwinInts (l : List (Int)) : Option (List (Int)) :=
  ((loopO (fun s => z_viaductref02_TwinInts_l0 l s.1 s.2) ([], 0)).bind fun o10 => some o10)

noncomputable def z_slices_Grow (n_ : Int) : Option (List (Int)) :=
  if n_ < 0 then (none) else (G (-9223372036854775808 ≤ (n_ - 0) ∧ (n_ - 0) ≤ 9223372036854775807) (if (n_ - 0) > 0 then (G (0 ≤ (n_ - 0) ∧ (n_ - 0) ≤ 17592186044160) (G (0 ≤ 0 ∧ 0 ≤ (([] ++ List.replicate (n_ - 0).toNat (0 : Int)).length : Int)) (some (([] ++ List.replicate (n_ - 0).toNat (0 : Int)).take (0 : Int).toNat)))) else (some [])))

noncomputable def z_slices_Concat (slices_ : List (Int)) (slices_2 : List (Int)) : Option (List (Int)) :=
  G (-9223372036854775808 ≤ (0 + (slices_.length : Int)) ∧ (0 + (slices_.length : Int)) ≤ 9223372036854775807) (if (0 + (slices_.length : Int)) < 0 then (none) else (G (-9223372036854775808 ≤ ((0 + (slices_.length : Int)) + (slices_2.length : Int)) ∧ ((0 + (slices_.length : Int)) + (slices_2.length : Int)) ≤ 9223372036854775807) (if ((0 + (slices_.length : Int)) + (slices_2.length : Int)) < 0 then (none) else (((z_slices_Grow ((0 + (slices_.length : Int)) + (slices_2.length : Int))).bind fun y35 => G (y35.length + slices_.length ≤ 17592186044160) (G ((y35 ++ slices_).length + slices_2.length ≤ 17592186044160) (some ((y35 ++ slices_) ++ slices_2))))))))

noncomputable def z_walk_Join (a : List (Int)) (b : List (Int)) : Option (List (Int) × Er) :=
  ((if (a.length : Int) = 0 then (some true) else (some (decide ((b.length : Int) = 0))) : Option (Bool)).bind fun o16 => ((if o16 = true then (some (Er.no 5)) else (G (-9223372036854775808 ≤ ((a.length : Int) - 1) ∧ ((a.length : Int) - 1) ≤ 9223372036854775807) (G (0 ≤ ((a.length : Int) - 1) ∧ ((a.length : Int) - 1) < (a.length : Int)) (G ((0 : Int) < (b.length : Int)) (if (gt a ((a.length : Int) - 1)) = (gt b 0) then (some Er.nil) else (some (Er.no 16)))))) : Option (Er)).bind fun o26 => if o26 = Er.nil then (G (0 ≤ 1 ∧ 1 ≤ (b.length : Int)) (((z_slices_Concat a ((b.take b.length).drop (1 : Int).toNat)).bind fun y78 => some (y78, Er.nil)))) else (some ([], o26))))

noncomputable def z_viaductref01_E (n_ : Int) : Option (Int) :=
  some n_

noncomputable def z_viaductref09_DocJoin (a : List (Int)) (b : List (Int)) : Option (List (Int) × Int) :=
  ((if (a.length : Int) = 0 then (some true) else (some (decide ((b.length : Int) = 0))) : Option (Bool)).bind fun o15 => if o15 = true then (((z_viaductref01_E 5).bind fun y30 => some ([], y30))) else (G (-9223372036854775808 ≤ ((a.length : Int) - 1) ∧ ((a.length : Int) - 1) ≤ 9223372036854775807) (G (0 ≤ ((a.length : Int) - 1) ∧ ((a.length : Int) - 1) < (a.length : Int)) (G ((0 : Int) < (b.length : Int)) (if (gt a ((a.length : Int) - 1)) = (gt b 0) then (((z_viaductref02_TwinInts a).bind fun y65 => G (0 ≤ 1 ∧ 1 ≤ (b.length : Int)) (G (y65.length + ((b.take b.length).drop (1 : Int).toNat).length ≤ 17592186044160) (some ((y65 ++ ((b.take b.length).drop (1 : Int).toNat)), 0))))) else (((z_viaductref01_E 16).bind fun y53 => some ([], y53))))))))

noncomputable def z_viaductref02_SameInts_l0 (a : List (Int)) (b : List (Int)) (i0 : Int) : Option ((Int) ⊕ ((Bool) ⊕ (Unit))) :=
  if i0 < (a.length : Int) then (G (0 ≤ i0) (G (i0 < (b.length : Int)) (if (gt a i0) = (gt b i0) then (G ((i0 + 1) ≤ 9223372036854775807) (some (Sum.inl (i0 + 1)))) else ((some false).map fun v => Sum.inr (Sum.inl v))))) else (some (Sum.inr (Sum.inr ())))
noncomputable def z_viaductref02_SameInts (a : List (Int)) (b : List (Int)) : Option (Bool) :=
  if (a.length : Int) = (b.length : Int) then (((loopO (fun s => z_viaductref02_SameInts_l0 a b s) 0).bind (Sum.elim some fun o10 => some true))) else (some false)

noncomputable def z_viaductref01_Err_Bad (Code : Int) (Places : List (Int × Int)) : Option (Bool) :=
  if Code = 0 then (some (decide ((Places.length : Int) > 0))) else (some true)

noncomputable def z_viaductseen_Same_l0 (Places : List (Int × Int)) (i0 : Int) (e1 : Er) : Option ((Int × Er) ⊕ ((Bool) ⊕ (Er))) :=
  if i0 < (Places.length : Int) then (G (0 ≤ i0) (if Er.isAt e1 = true then (if (Er.fk e1) = ((gt Places i0).1) ∧ (Er.fi e1) = ((gt Places i0).2) then (G ((i0 + 1) ≤ 9223372036854775807) (some (Sum.inl ((i0 + 1), (Er.fe e1))))) else ((some false).map fun v => Sum.inr (Sum.inl v))) else ((some false).map fun v => Sum.inr (Sum.inl v)))) else (some (Sum.inr (Sum.inr e1)))
noncomputable def z_viaductseen_Same_l1 (err : Er) (Code : Int) (i2 : Int) : Option ((Int) ⊕ ((Bool) ⊕ (Unit))) :=
  if i2 ≤ 20 then (if (decide (Er.num err = some i2)) = (decide (i2 = Code)) then (G (-9223372036854775808 ≤ (i2 + 1) ∧ (i2 + 1) ≤ 9223372036854775807) (some (Sum.inl (i2 + 1)))) else ((some false).map fun v => Sum.inr (Sum.inl v))) else (some (Sum.inr (Sum.inr ())))
noncomputable def z_viaductseen_Same (err : Er) (Code : Int) (Places : List (Int × Int)) : Option (Bool) :=
  ((z_viaductref01_Err_Bad Code Places).bind fun y11 => if (!y11) = true then (if err = Er.nil then (some true) else (some false)) else (if err = Er.nil then (some false) else (((loopO (fun s => z_viaductseen_Same_l0 Places s.1 s.2) (0, err)).bind (Sum.elim some fun o40 => if Er.isAt o40 = true then (some false) else (((if (Er.num err).isSome = true then (some (!decide (((Er.num err).getD 0) = Code))) else (some true) : Option (Bool)).bind fun o160 => if o160 = true then (some false) else (((loopO (fun s => z_viaductseen_Same_l1 err Code s) 1).bind (Sum.elim some fun o185 => some true))))))))))

noncomputable def z_walk_Simple_l1 (list : List (Int)) (i0 : Int) (at1 : Int → Option Int) (s2 : List (Int)) (at3 : Int → Option Int) (i4 : Int) : Option (((Int → Option Int) × Int) ⊕ ((Int → Option Int))) :=
  if i4 < (((s2.take s2.length).drop ((at1 (gt list i0)).getD 0).toNat).length : Int) then (G (0 ≤ i4) (G ((i4 + 1) ≤ 9223372036854775807) (some (Sum.inl ((fun x => if x = (gt ((s2.take s2.length).drop ((at1 (gt list i0)).getD 0).toNat) i4) then none else at3 x), (i4 + 1)))))) else (some (Sum.inr at3))
noncomputable def z_walk_Simple_l0 (list : List (Int)) (i0 : Int) (at1 : Int → Option Int) (s2 : List (Int)) : Option ((Int × (Int → Option Int) × List (Int)) ⊕ (List (Int))) :=
  if i0 < (list.length : Int) then (G (0 ≤ i0) (if ((at1 (gt list i0)).getD 0) = 0 then (G (s2.length + 1 ≤ 17592186044160) (G ((i0 + 1) ≤ 9223372036854775807) (some (Sum.inl ((i0 + 1), (fun x => if x = (gt list i0) then some ((s2 ++ [(gt list i0)]).length : Int) else at1 x), (s2 ++ [(gt list i0)])))))) else (G (0 ≤ ((at1 (gt list i0)).getD 0) ∧ ((at1 (gt list i0)).getD 0) ≤ (s2.length : Int)) (((loopO (fun s => z_walk_Simple_l1 list i0 at1 s2 s.1 s.2) (at1, 0)).bind fun o112 => G ((i0 + 1) ≤ 9223372036854775807) (some (Sum.inl ((i0 + 1), o112, (s2.take ((at1 (gt list i0)).getD 0).toNat))))))))) else (some (Sum.inr s2))
noncomputable def z_walk_Simple (list : List (Int)) : Option (List (Int)) :=
  ((loopO (fun s => z_walk_Simple_l0 list s.1 s.2.1 s.2.2) (0, (fun _ => none), [])).bind fun o18 => some o18)

noncomputable def z_viaductref09_Simple_l1 (l : List (Int)) (i0 : Int) (s1 : List (Int)) (i2 : Int) (at3 : Int) : Option ((Int × Int) ⊕ (Int)) :=
  if i2 < (s1.length : Int) then (G (0 ≤ i2) (if (gt s1 i2) = (gt l i0) then (G ((i2 + 1) ≤ 9223372036854775807) (some (Sum.inl ((i2 + 1), i2)))) else (G ((i2 + 1) ≤ 9223372036854775807) (some (Sum.inl ((i2 + 1), at3)))))) else (some (Sum.inr at3))
noncomputable def z_viaductref09_Simple_l0 (l : List (Int)) (i0 : Int) (s1 : List (Int)) : Option ((Int × List (Int)) ⊕ (List (Int))) :=
  if i0 < (l.length : Int) then (G (0 ≤ i0) (((loopO (fun s => z_viaductref09_Simple_l1 l i0 s1 s.1 s.2) (0, (-1))).bind fun o53 => if o53 ≥ 0 then (G (-9223372036854775808 ≤ (o53 + 1) ∧ (o53 + 1) ≤ 9223372036854775807) (G (0 ≤ (o53 + 1) ∧ (o53 + 1) ≤ (s1.length : Int)) (G ((i0 + 1) ≤ 9223372036854775807) (some (Sum.inl ((i0 + 1), (s1.take (o53 + 1).toNat))))))) else (G (s1.length + 1 ≤ 17592186044160) (G ((i0 + 1) ≤ 9223372036854775807) (some (Sum.inl ((i0 + 1), (s1 ++ [(gt l i0)]))))))))) else (some (Sum.inr s1))
noncomputable def z_viaductref09_Simple (l : List (Int)) : Option (List (Int)) :=
  ((loopO (fun s => z_viaductref09_Simple_l0 l s.1 s.2) (0, [])).bind fun o10 => some o10)

noncomputable def z_slices_Reverse_l0 (s0 : List (Int)) (i1 : Int) (j2 : Int) : Option ((List (Int) × Int × Int) ⊕ (List (Int))) :=
  if i1 < j2 then (G (0 ≤ j2 ∧ j2 < (s0.length : Int)) (G (0 ≤ i1 ∧ i1 < (s0.length : Int)) (G (j2 < ((s0.set i1.toNat (gt s0 j2)).length : Int)) (G ((i1 + 1) ≤ 9223372036854775807) (G (-9223372036854775808 ≤ (j2 - 1) ∧ (j2 - 1) ≤ 9223372036854775807) (some (Sum.inl (((s0.set i1.toNat (gt s0 j2)).set j2.toNat (gt s0 i1)), (i1 + 1), (j2 - 1))))))))) else (some (Sum.inr s0))
noncomputable def z_slices_Reverse (s : List (Int)) : Option (List (Int)) :=
  G (-9223372036854775808 ≤ ((s.length : Int) - 1) ∧ ((s.length : Int) - 1) ≤ 9223372036854775807) (((loopO (fun s => z_slices_Reverse_l0 s.1 s.2.1 s.2.2) (s, 0, ((s.length : Int) - 1))).bind fun o6 => some o6))

noncomputable def z_walk_Back (list : List (Int)) : Option (List (Int)) :=
  G (0 ≤ (list.length : Int) ∧ 8 * (list.length : Int) ≤ 281474976710656) (((z_slices_Reverse (list.take (List.replicate list.length (0 : Int)).length ++ (List.replicate list.length (0 : Int)).drop list.length)).bind fun y27 => some y27))

noncomputable def z_viaductref09_Back_l0 (l : List (Int)) (b0 : List (Int)) (i1 : Int) : Option ((List (Int) × Int) ⊕ (List (Int))) :=
  if i1 ≥ 0 then (G (0 ≤ i1 ∧ i1 < (l.length : Int)) (G (b0.length + 1 ≤ 17592186044160) (G (-9223372036854775808 ≤ (i1 - 1) ∧ (i1 - 1) ≤ 9223372036854775807) (some (Sum.inl ((b0 ++ [(gt l i1)]), (i1 - 1))))))) else (some (Sum.inr b0))
noncomputable def z_viaductref09_Back (l : List (Int)) : Option (List (Int)) :=
  G (-9223372036854775808 ≤ ((l.length : Int) - 1) ∧ ((l.length : Int) - 1) ≤ 9223372036854775807) (((loopO (fun s => z_viaductref09_Back_l0 l s.1 s.2) ([], ((l.length : Int) - 1))).bind fun o12 => some o12))

noncomputable def z_viaductlaw09_WalkLists (a : List (Int)) (b : List (Int)) : Option (Bool) :=
  ((if (a.length : Int) > 3000 then (some true) else (some (decide ((b.length : Int) > 3000))) : Option (Bool)).bind fun o6 => if o6 = true then (some true) else (((z_viaductref02_TwinInts a).bind fun y21 => ((z_viaductref02_TwinInts b).bind fun y35 => ((z_walk_Join y21 y35).bind fun y49 => ((z_viaductref09_DocJoin a b).bind fun y71 => ((z_viaductref02_SameInts y49.1 y71.1).bind fun y97 => if y97 = true then (((z_viaductseen_Same y49.2 y71.2 []).bind fun y106 => if y106 = true then (((z_viaductref02_TwinInts a).bind fun y115 => ((z_walk_Simple y115).bind fun y128 => ((z_viaductref09_Simple a).bind fun y142 => ((z_viaductref02_SameInts y128 y142).bind fun y156 => if y156 = true then (((z_viaductref02_TwinInts a).bind fun y165 => ((z_walk_Back y165).bind fun y178 => ((z_viaductref09_Back a).bind fun y192 => ((z_viaductref02_SameInts y178 y192).bind fun y206 => some y206))))) else (some false)))))) else (some false))) else (some false))))))))

end Go.Vd
