/- What the functions come to, as plain functions (printed by a program of ours). -/
import Derived.Test.YtjfplpkmbijfpaaDoorVpA
set_option maxRecDepth 100000
set_option linter.unusedVariables false
namespace Go.Vd
def enc_i64_i64 (x : Int × Int) : List Value := [.int .i64 x.1, .int .i64 x.2]
def enc_i64_i64_i64 (x : Int × Int × Int) : List Value := [.int .i64 x.1, .int .i64 x.2.1, .int .i64 x.2.2]


noncomputable def z_gtext_within (x : Int) (n_ : Int) : Option (Bool) :=
  if x ≥ 0 then (some (decide (x < n_))) else (some false)

noncomputable def z_gtext_arc (From : Int) (To : Int) (Weight : Int) (n_ : Int) : Option (Er) :=
  ((((z_gtext_within From n_).bind fun y22 => if y22 = true then (((z_gtext_within To n_).bind fun y30 => some (!y30))) else (some true)) : Option (Bool)).bind fun o15 => if o15 = true then (some (Er.no 7)) else (if Weight < 0 then (some (Er.no 8)) else (if Weight > 2147483647 then (some (Er.no 8)) else (some Er.nil))))

noncomputable def z_fault_At (kind : Int) (at_ : Int) (err : Er) : Option (Er) :=
  if err = Er.nil then (some Er.nil) else (some (Er.at kind at_ err))

noncomputable def z_gtext_Check_l0 (N_ : Int) (Arcs : List (Int × Int × Int)) (i0 : Int) : Option ((Int) ⊕ ((Er) ⊕ (Unit))) :=
  if i0 < (Arcs.length : Int) then (G (0 ≤ i0) (((z_gtext_arc ((gt Arcs i0).1) ((gt Arcs i0).2.1) ((gt Arcs i0).2.2) N_).bind fun y76 => if y76 = Er.nil then (G ((i0 + 1) ≤ 9223372036854775807) (some (Sum.inl (i0 + 1)))) else (((z_fault_At 4 i0 y76).bind fun y95 => (some y95).map fun v => Sum.inr (Sum.inl v)))))) else (some (Sum.inr (Sum.inr ())))
noncomputable def z_gtext_Check (N_ : Int) (Arcs : List (Int × Int × Int)) : Option (Er) :=
  ((if N_ < 0 then (some true) else (if N_ > 65536 then (some true) else (some (decide ((Arcs.length : Int) > 262144)))) : Option (Bool)).bind fun o15 => if o15 = true then (some (Er.no 9)) else (((loopO (fun zz_ => z_gtext_Check_l0 N_ Arcs zz_) 0).bind (Sum.elim some fun o36 => some Er.nil))))

noncomputable def z_normal_Reverse_l0 (Arcs : List (Int × Int × Int)) (i0 : Int) (c1 : List (Int × Int × Int)) : Option ((Int × List (Int × Int × Int)) ⊕ (List (Int × Int × Int))) :=
  if i0 < (Arcs.length : Int) then (G (0 ≤ i0) (G (c1.length + 1 ≤ 5864062014549) (G ((i0 + 1) ≤ 9223372036854775807) (some (Sum.inl ((i0 + 1), (c1 ++ [((gt Arcs i0).2.1, (gt Arcs i0).1, (gt Arcs i0).2.2)]))))))) else (some (Sum.inr c1))
noncomputable def z_normal_Reverse (N_ : Int) (Arcs : List (Int × Int × Int)) : Option (Int × List (Int × Int × Int) × Er) :=
  ((z_gtext_Check N_ Arcs).bind fun y29 => if y29 = Er.nil then (((loopO (fun zz_ => z_normal_Reverse_l0 Arcs zz_.1 zz_.2) (0, [])).bind fun o60 => some (N_, o60, Er.nil))) else (some (0, [], y29)))

noncomputable def z_viaductref01_E (n_ : Int) : Option (Int) :=
  some n_

noncomputable def z_viaductref01_At (kind : Int) (at_ : Int) (Code : Int) (Places : List (Int × Int)) : Option (Int × List (Int × Int)) :=
  G ([(kind, at_)].length + Places.length ≤ 8796093021952) (some (Code, ([(kind, at_)] ++ Places)))

noncomputable def z_viaductref03_DocCheck_l0 (N_ : Int) (Arcs : List (Int × Int × Int)) (i0 : Int) : Option ((Int) ⊕ ((Int × List (Int × Int)) ⊕ (Unit))) :=
  if i0 < (Arcs.length : Int) then (G (0 ≤ i0) (((if ((gt Arcs i0).1) < 0 then (some true) else (if ((gt Arcs i0).1) ≥ N_ then (some true) else (if ((gt Arcs i0).2.1) < 0 then (some true) else (some (decide (((gt Arcs i0).2.1) ≥ N_))))) : Option (Bool)).bind fun o94 => if o94 = true then (((z_viaductref01_E 7).bind fun y114 => ((z_viaductref01_At 4 i0 y114 []).bind fun y119 => (some (y119.1, y119.2)).map fun v => Sum.inr (Sum.inl v)))) else (((if ((gt Arcs i0).2.2) < 0 then (some true) else (some (decide (((gt Arcs i0).2.2) > 2147483647))) : Option (Bool)).bind fun o144 => if o144 = true then (((z_viaductref01_E 8).bind fun y157 => ((z_viaductref01_At 4 i0 y157 []).bind fun y162 => (some (y162.1, y162.2)).map fun v => Sum.inr (Sum.inl v)))) else (G ((i0 + 1) ≤ 9223372036854775807) (some (Sum.inl (i0 + 1))))))))) else (some (Sum.inr (Sum.inr ())))
noncomputable def z_viaductref03_DocCheck (N_ : Int) (Arcs : List (Int × Int × Int)) : Option (Int × List (Int × Int)) :=
  ((if N_ < 0 then (some true) else (if N_ > 65536 then (some true) else (some (decide ((Arcs.length : Int) > 262144)))) : Option (Bool)).bind fun o21 => if o21 = true then (((z_viaductref01_E 9).bind fun y39 => some (y39, []))) else (((loopO (fun zz_ => z_viaductref03_DocCheck_l0 N_ Arcs zz_) 0).bind (Sum.elim some fun o54 => some (0, [])))))

noncomputable def z_viaductref01_Err_Bad (Code : Int) (Places : List (Int × Int)) : Option (Bool) :=
  if Code = 0 then (some (decide ((Places.length : Int) > 0))) else (some true)

noncomputable def z_viaductref04_Reverse_l0 (Arcs : List (Int × Int × Int)) (i0 : Int) (c1 : List (Int × Int × Int)) : Option ((Int × List (Int × Int × Int)) ⊕ (List (Int × Int × Int))) :=
  if i0 < (Arcs.length : Int) then (G (0 ≤ i0) (G (c1.length + 1 ≤ 5864062014549) (G ((i0 + 1) ≤ 9223372036854775807) (some (Sum.inl ((i0 + 1), (c1 ++ [((gt Arcs i0).2.1, (gt Arcs i0).1, (gt Arcs i0).2.2)]))))))) else (some (Sum.inr c1))
noncomputable def z_viaductref04_Reverse (N_ : Int) (Arcs : List (Int × Int × Int)) : Option (Int × List (Int × Int × Int)) :=
  ((loopO (fun zz_ => z_viaductref04_Reverse_l0 Arcs zz_.1 zz_.2) (0, [])).bind fun o35 => some (N_, o35))

noncomputable def z_viaductref04_DocReverse (N_ : Int) (Arcs : List (Int × Int × Int)) : Option (Int × List (Int × Int × Int) × Int × List (Int × Int)) :=
  ((z_viaductref03_DocCheck N_ Arcs).bind fun y35 => ((z_viaductref01_Err_Bad y35.1 y35.2).bind fun y61 => if y61 = true then (some (0, [], y35.1, y35.2)) else (((z_viaductref04_Reverse N_ Arcs).bind fun y88 => some (y88.1, y88.2, 0, [])))))

noncomputable def z_viaductref03_SameArcs_l0 (a : List (Int × Int × Int)) (b : List (Int × Int × Int)) (i0 : Int) : Option ((Int) ⊕ ((Bool) ⊕ (Unit))) :=
  if i0 < (a.length : Int) then (G (0 ≤ i0) (G (i0 < (b.length : Int)) (if ((gt a i0).1) = ((gt b i0).1) ∧ ((gt a i0).2.1) = ((gt b i0).2.1) ∧ ((gt a i0).2.2) = ((gt b i0).2.2) then (G ((i0 + 1) ≤ 9223372036854775807) (some (Sum.inl (i0 + 1)))) else ((some false).map fun v => Sum.inr (Sum.inl v))))) else (some (Sum.inr (Sum.inr ())))
noncomputable def z_viaductref03_SameArcs (a : List (Int × Int × Int)) (b : List (Int × Int × Int)) : Option (Bool) :=
  if (a.length : Int) = (b.length : Int) then (((loopO (fun zz_ => z_viaductref03_SameArcs_l0 a b zz_) 0).bind (Sum.elim some fun o10 => some true))) else (some false)

noncomputable def z_viaductref03_Same (N_ : Int) (Arcs : List (Int × Int × Int)) (N_2 : Int) (Arcs_ : List (Int × Int × Int)) : Option (Bool) :=
  if N_ = N_2 then (((z_viaductref03_SameArcs Arcs Arcs_).bind fun y21 => some y21)) else (some false)

noncomputable def z_viaductseen_Same_l0 (Places : List (Int × Int)) (i0 : Int) (e1 : Er) : Option ((Int × Er) ⊕ ((Bool) ⊕ (Er))) :=
  if i0 < (Places.length : Int) then (G (0 ≤ i0) (if Er.isAt e1 = true then (if (Er.fk e1) = ((gt Places i0).1) ∧ (Er.fi e1) = ((gt Places i0).2) then (G ((i0 + 1) ≤ 9223372036854775807) (some (Sum.inl ((i0 + 1), (Er.fe e1))))) else ((some false).map fun v => Sum.inr (Sum.inl v))) else ((some false).map fun v => Sum.inr (Sum.inl v)))) else (some (Sum.inr (Sum.inr e1)))
noncomputable def z_viaductseen_Same_l1 (err : Er) (Code : Int) (i2 : Int) : Option ((Int) ⊕ ((Bool) ⊕ (Unit))) :=
  if i2 ≤ 20 then (if (decide (Er.num err = some i2)) = (decide (i2 = Code)) then (G (-9223372036854775808 ≤ (i2 + 1) ∧ (i2 + 1) ≤ 9223372036854775807) (some (Sum.inl (i2 + 1)))) else ((some false).map fun v => Sum.inr (Sum.inl v))) else (some (Sum.inr (Sum.inr ())))
noncomputable def z_viaductseen_Same (err : Er) (Code : Int) (Places : List (Int × Int)) : Option (Bool) :=
  ((z_viaductref01_Err_Bad Code Places).bind fun y11 => if (!y11) = true then (if err = Er.nil then (some true) else (some false)) else (if err = Er.nil then (some false) else (((loopO (fun zz_ => z_viaductseen_Same_l0 Places zz_.1 zz_.2) (0, err)).bind (Sum.elim some fun o40 => if Er.isAt o40 = true then (some false) else (((if (Er.num err).isSome = true then (some (!decide (((Er.num err).getD 0) = Code))) else (some true) : Option (Bool)).bind fun o160 => if o160 = true then (some false) else (((loopO (fun zz_ => z_viaductseen_Same_l1 err Code zz_) 1).bind (Sum.elim some fun o185 => some true))))))))))

noncomputable def z_normal_Degrees_l0 (Arcs : List (Int × Int × Int)) (i0 : Int) (out1 : List (Int)) (in2 : List (Int)) : Option ((Int × List (Int) × List (Int)) ⊕ (List (Int) × List (Int))) :=
  if i0 < (Arcs.length : Int) then (G (0 ≤ i0) (G (0 ≤ (gt Arcs i0).1 ∧ (gt Arcs i0).1 < (out1.length : Int)) (G (-9223372036854775808 ≤ ((gt out1 ((gt Arcs i0).1)) + 1) ∧ ((gt out1 ((gt Arcs i0).1)) + 1) ≤ 9223372036854775807) (G (0 ≤ (gt Arcs i0).2.1 ∧ (gt Arcs i0).2.1 < (in2.length : Int)) (G (-9223372036854775808 ≤ ((gt in2 ((gt Arcs i0).2.1)) + 1) ∧ ((gt in2 ((gt Arcs i0).2.1)) + 1) ≤ 9223372036854775807) (G ((i0 + 1) ≤ 9223372036854775807) (some (Sum.inl ((i0 + 1), (out1.set ((gt Arcs i0).1).toNat ((gt out1 ((gt Arcs i0).1)) + 1)), (in2.set ((gt Arcs i0).2.1).toNat ((gt in2 ((gt Arcs i0).2.1)) + 1))))))))))) else (some (Sum.inr (out1, in2)))
noncomputable def z_normal_Degrees (N_ : Int) (Arcs : List (Int × Int × Int)) : Option (List (Int) × List (Int) × Er) :=
  ((z_gtext_Check N_ Arcs).bind fun y29 => if y29 = Er.nil then (G (0 ≤ N_ ∧ 8 * N_ ≤ 281474976710656) (((loopO (fun zz_ => z_normal_Degrees_l0 Arcs zz_.1 zz_.2.1 zz_.2.2) (0, (List.replicate N_.toNat (0 : Int)), (List.replicate N_.toNat (0 : Int)))).bind fun o73 => some (o73.1, o73.2, Er.nil)))) else (some ([], [], y29)))

noncomputable def z_viaductref04_DocDegrees_l0 (Arcs : List (Int × Int × Int)) (i0 : Int) (out1 : List (Int)) (in2 : List (Int)) : Option ((Int × List (Int) × List (Int)) ⊕ (List (Int) × List (Int))) :=
  if i0 < (Arcs.length : Int) then (G (0 ≤ i0) (G (0 ≤ (gt Arcs i0).1 ∧ (gt Arcs i0).1 < (out1.length : Int)) (G (-9223372036854775808 ≤ ((gt out1 ((gt Arcs i0).1)) + 1) ∧ ((gt out1 ((gt Arcs i0).1)) + 1) ≤ 9223372036854775807) (G (0 ≤ (gt Arcs i0).2.1 ∧ (gt Arcs i0).2.1 < (in2.length : Int)) (G (-9223372036854775808 ≤ ((gt in2 ((gt Arcs i0).2.1)) + 1) ∧ ((gt in2 ((gt Arcs i0).2.1)) + 1) ≤ 9223372036854775807) (G ((i0 + 1) ≤ 9223372036854775807) (some (Sum.inl ((i0 + 1), (out1.set ((gt Arcs i0).1).toNat ((gt out1 ((gt Arcs i0).1)) + 1)), (in2.set ((gt Arcs i0).2.1).toNat ((gt in2 ((gt Arcs i0).2.1)) + 1))))))))))) else (some (Sum.inr (out1, in2)))
noncomputable def z_viaductref04_DocDegrees (N_ : Int) (Arcs : List (Int × Int × Int)) : Option (List (Int) × List (Int) × Int × List (Int × Int)) :=
  ((z_viaductref03_DocCheck N_ Arcs).bind fun y36 => ((z_viaductref01_Err_Bad y36.1 y36.2).bind fun y62 => if y62 = true then (some ([], [], y36.1, y36.2)) else (G (0 ≤ N_ ∧ 8 * N_ ≤ 281474976710656) (((loopO (fun zz_ => z_viaductref04_DocDegrees_l0 Arcs zz_.1 zz_.2.1 zz_.2.2) (0, (List.replicate N_.toNat (0 : Int)), (List.replicate N_.toNat (0 : Int)))).bind fun o108 => some (o108.1, o108.2, 0, []))))))

noncomputable def z_viaductref02_SameInts_l0 (a : List (Int)) (b : List (Int)) (i0 : Int) : Option ((Int) ⊕ ((Bool) ⊕ (Unit))) :=
  if i0 < (a.length : Int) then (G (0 ≤ i0) (G (i0 < (b.length : Int)) (if (gt a i0) = (gt b i0) then (G ((i0 + 1) ≤ 9223372036854775807) (some (Sum.inl (i0 + 1)))) else ((some false).map fun v => Sum.inr (Sum.inl v))))) else (some (Sum.inr (Sum.inr ())))
noncomputable def z_viaductref02_SameInts (a : List (Int)) (b : List (Int)) : Option (Bool) :=
  if (a.length : Int) = (b.length : Int) then (((loopO (fun zz_ => z_viaductref02_SameInts_l0 a b zz_) 0).bind (Sum.elim some fun o10 => some true))) else (some false)

noncomputable def z_viaductlaw04_NormalTurns (N_ : Int) (Arcs : List (Int × Int × Int)) : Option (Bool) :=
  ((z_normal_Reverse N_ Arcs).bind fun y12 => ((z_viaductref04_DocReverse N_ Arcs).bind fun y45 => ((((z_viaductref03_Same y12.1 y12.2.1 y45.1 y45.2.1).bind fun y104 => if y104 = true then (((z_viaductseen_Same y12.2.2 y45.2.2.1 y45.2.2.2).bind fun y115 => some (!y115))) else (some true)) : Option (Bool)).bind fun o93 => if o93 = true then (some false) else (((z_normal_Degrees N_ Arcs).bind fun y129 => ((z_viaductref04_DocDegrees N_ Arcs).bind fun y161 => ((z_viaductref02_SameInts y129.1 y161.1).bind fun y201 => if y201 = true then (((z_viaductref02_SameInts y129.2.1 y161.2.1).bind fun y211 => if y211 = true then (((z_viaductseen_Same y129.2.2 y161.2.2.1 y161.2.2.2).bind fun y221 => some y221)) else (some false))) else (some false))))))))

end Go.Vd
